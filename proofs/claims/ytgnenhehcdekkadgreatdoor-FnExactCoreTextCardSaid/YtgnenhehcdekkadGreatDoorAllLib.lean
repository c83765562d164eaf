/- Proved: what the program's and the reference's functions of this claim come to: the same, part by part. Conditions: those in each head. -/
import Derived.Test.YtgnenhehcdekkadGreatDoorVWords
import Derived.Test.YtgnenhehcdekkadGreatDoorA1
import Derived.Test.YtgnenhehcdekkadGreatDoorA10
import Derived.Test.YtgnenhehcdekkadGreatDoorA2
import Derived.Test.YtgnenhehcdekkadGreatDoorA11
import Derived.Test.YtgnenhehcdekkadGreatDoorA4
import Derived.Test.YtgnenhehcdekkadGreatDoorA14
import Derived.Test.YtgnenhehcdekkadGreatDoorA12
import Derived.Test.YtgnenhehcdekkadGreatDoorA13
import Derived.Test.YtgnenhehcdekkadGreatDoorA3
import Derived.Test.YtgnenhehcdekkadGreatDoorA8
import Derived.Test.YtgnenhehcdekkadGreatDoorA16
import Derived.Lib.ItoaNum
import Derived.Test.YtgnenhehcdekkadGreatDoorA19
import Derived.Test.YtgnenhehcdekkadGreatDoorAOk
import Derived.Test.YtgnenhehcdekkadGreatDoorA9
import Derived.Lib.Join
import Derived.Test.YtgnenhehcdekkadGreatDoorA17
import Derived.Test.YtgnenhehcdekkadGreatDoorA7
import Derived.Test.YtgnenhehcdekkadGreatDoorA15
import Derived.Test.YtgnenhehcdekkadGreatDoorA5
import Derived.Test.YtgnenhehcdekkadGreatDoorA6
import Derived.Test.YtgnenhehcdekkadGreatDoorA18
import Derived.Test.YtgnenhehcdekkadGreatDoorA20
namespace Go.Proofs.YtgnenhehcdekkadGreatDoor.PL
open Go.RowKit Go.Proofs.YtgnenhehcdekkadGreatDoorW.PrintWords
theorem wrap_id {x : Int} (h0 : -9223372036854775808 ≤ x) (h1 : x ≤ 9223372036854775807) : wrap64 x = x := by unfold wrap64; omega
theorem wrap_succ {i n : Nat} (h : i < n) (hn : n ≤ 9223372036854775807) : wrap64 ((i : Int) + 1) = ((i + 1 : Nat) : Int) := by unfold wrap64; omega
theorem Ev.const {α : Type} {x : Option α} {r : α} (h : x = some r) : Ev (fun _ => x) r := ⟨0, fun _ _ => h⟩
theorem Ev.bind0 {α β : Type} {x : Option α} {f : Nat → α → Option β} {a : α} {r : β} (h : x = some a) (k : Ev (fun n => f n a) r) : Ev (fun n => x.bind (f n)) r := by
  subst h
  exact k
theorem all_ev {ρ : Type} (n : Nat) (l : Nat → Int → Option ρ) (r : ρ) (hs : ∀ k i, i < n → l (k + 1) (i : Int) = l k ((i + 1 : Nat) : Int)) (he : ∀ k, l (k + 1) (n : Int) = some r) : ∀ d i, i + d = n → Ev (fun k => l k (i : Int)) r
  | 0, i, hd => by
    have e : i = n := by omega
    subst e
    exact Ev.step he (Ev.now _)
  | d + 1, i, hd => Ev.step (fun k => hs k i (by omega)) (all_ev n l r hs he d (i + 1) (by omega))
theorem to_ev0 {α β : Type} (xs : List α) (conv : α → β) (l : Nat → List β → Int → Option (List β))
    (hs : ∀ k out i (hi : i < xs.length), out.length = xs.length → l (k + 1) out (i : Int) = l k (out.set i (conv xs[i])) ((i + 1 : Nat) : Int))
    (he : ∀ k out, out.length = xs.length → l (k + 1) out (xs.length : Int) = some out) : ∀ d i out, i + d = xs.length → out.length = xs.length → out.take i = (xs.take i).map conv → Ev (fun k => l k out (i : Int)) (xs.map conv)
  | 0, i, out, hd, ho, ht => by
    have e : i = xs.length := by omega
    subst e
    rw [List.take_of_length_le (by omega), List.take_of_length_le (Nat.le_refl _)] at ht
    rw [← ht]
    exact Ev.step (fun k => he k out ho) (Ev.now _)
  | d + 1, i, out, hd, ho, ht => by
    have hi : i < xs.length := by omega
    refine Ev.step (fun k => hs k out i hi ho) (to_ev0 xs conv l hs he d (i + 1) _ (by omega) (by rw [List.length_set]; exact ho) ?_)
    rw [List.take_succ_eq_append_getElem (by rw [List.length_set]; omega), List.take_succ_eq_append_getElem hi, List.getElem_set_self, List.take_set_of_le (Nat.le_refl i), ht, List.map_append]
    rfl
theorem to_ev {α β : Type} (xs : List α) (conv : α → β) (z : β) (l : Nat → List β → Int → Option (List β))
    (hs : ∀ k out i (hi : i < xs.length), out.length = xs.length → l (k + 1) out (i : Int) = l k (out.set i (conv xs[i])) ((i + 1 : Nat) : Int))
    (he : ∀ k out, out.length = xs.length → l (k + 1) out (xs.length : Int) = some out) : Ev (fun k => l k (List.replicate xs.length z) 0) (xs.map conv) :=
  to_ev0 xs conv l hs he xs.length 0 _ (by omega) (by simp) rfl
theorem sz_ev {α : Type} (xs : List α) (l : Nat → Int → Int → Option Int)
    (hs : ∀ left i (_ : i < xs.length), 0 ≤ left → left ≤ 1048576 → ∃ r, r ≤ left ∧ ((r < 0 ∧ ∀ k, l (k + 1) left (i : Int) = some (-1)) ∨ (0 ≤ r ∧ ∀ k, l (k + 1) left (i : Int) = l k r ((i + 1 : Nat) : Int))))
    (he : ∀ k left, l (k + 1) left (xs.length : Int) = some left) : ∀ d i left, i + d = xs.length → 0 ≤ left → left ≤ 1048576 → ∃ r, Ev (fun k => l k left (i : Int)) r ∧ r ≤ left
  | 0, i, left, hd, h0, h1 => by
    have e : i = xs.length := by omega
    subst e
    exact ⟨left, Ev.step (fun k => he k left) (Ev.now _), Int.le_refl _⟩
  | d + 1, i, left, hd, h0, h1 => by
    obtain ⟨r, hr, h⟩ := hs left i (by omega) h0 h1
    rcases h with ⟨hn, h⟩ | ⟨hp, h⟩
    · exact ⟨-1, Ev.step h (Ev.now _), by omega⟩
    · obtain ⟨q, hq, hql⟩ := sz_ev xs l hs he d (i + 1) r (by omega) hp (by omega)
      exact ⟨q, Ev.step h hq, by omega⟩
theorem Ev.ifp {α : Type} {c : Prop} [Decidable c] {f g : Nat → Option α} {r : α} (hc : c) (h : Ev f r) : Ev (fun k => if c then f k else g k) r := Ev.congr (fun _ => if_pos hc) h
theorem Ev.ifn {α : Type} {c : Prop} [Decidable c] {f g : Nat → Option α} {r : α} (hc : ¬ c) (h : Ev g r) : Ev (fun k => if c then f k else g k) r := Ev.congr (fun _ => if_neg hc) h
theorem Ev.iff {α : Type} {c : Prop} [Decidable c] {f g : Nat → Option α} {r : α} (hp : c → Ev f r) (hn : ¬ c → Ev g r) : Ev (fun k => if c then f k else g k) r := by
  by_cases hc : c
  · exact Ev.ifp hc (hp hc)
  · exact Ev.ifn hc (hn hc)
theorem Ev.leaf {α : Type} {v r : α} (h : v = r) : Ev (fun _ => some v) r := by subst h; exact Ev.now _
theorem Ev.cast {α : Type} {g : Nat → Option α} {a r : α} (h : Ev g a) (e : a = r) : Ev g r := e ▸ h
def runU {ρ : Type} (B : Nat → Option ρ) (e : ρ) : Nat → Nat → ρ
  | 0, _ => e
  | d + 1, i => match B i with
    | none => runU B e d (i + 1)
    | some r => r
theorem loopU {ρ : Type} (n : Nat) (l : Nat → Int → Option ρ) (B : Nat → Option ρ) (e : ρ)
    (hs : ∀ i, i < n → match B i with
      | none => ∀ r, Ev (fun k => l k ((i + 1 : Nat) : Int)) r → Ev (fun k => l k (i : Int)) r
      | some r => Ev (fun k => l k (i : Int)) r)
    (he : Ev (fun k => l k (n : Int)) e) : ∀ d i, i + d = n → Ev (fun k => l k (i : Int)) (runU B e d i)
  | 0, i, hd => by
    have h : i = n := by omega
    subst h
    exact he
  | d + 1, i, hd => by
    have h := hs i (by omega)
    cases hB : B i with
    | none =>
      rw [hB] at h
      simp only [runU, hB]
      exact h _ (loopU n l B e hs he d (i + 1) (by omega))
    | some r =>
      rw [hB] at h
      simp only [runU, hB]
      exact h
theorem bt_data (s : ByteArray) (i : Nat) (h : i < s.size) : bt s (i : Int) = ((s.data.toList[i]'(by rw [data_length]; exact h)).toNat : Int) := by
  rw [← bt_at s i (by simpa using h)]
  rfl
def elimB {ρ : Type} (B : Option ρ) (g : Nat → Option ρ) (k : Nat) : Option ρ := match B with
  | none => g k
  | some v => some v
theorem Ev.stop {ρ : Type} {B : Option ρ} {g : Nat → Option ρ} {v r : ρ} (hr : Ev (elimB B g) r) (e : B = some v) : Ev (fun _ => some v) r := by subst e; exact hr
theorem Ev.go {ρ : Type} {B : Option ρ} {g : Nat → Option ρ} {r : ρ} (hr : Ev (elimB B g) r) (e : B = none) : Ev g r := by subst e; exact hr
theorem loopO {ρ : Type} (n : Nat) (l : Nat → Int → Option ρ) (B : Nat → Option ρ) (e : ρ)
    (hs : ∀ i, i < n → ∀ r, Ev (elimB (B i) (fun k => l k ((i + 1 : Nat) : Int))) r → Ev (fun k => l k (i : Int)) r)
    (he : Ev (fun k => l k (n : Int)) e) : ∀ d i, i + d = n → Ev (fun k => l k (i : Int)) (runU B e d i)
  | 0, i, hd => by
    have h : i = n := by omega
    subst h
    exact he
  | d + 1, i, hd => by
    refine hs i (by omega) _ ?_
    cases hB : B i with
    | none =>
      simp only [runU, hB]
      exact loopO n l B e hs he d (i + 1) (by omega)
    | some r =>
      simp only [runU, hB]
      exact Ev.now _
theorem loopI {ρ : Type} (n : Nat) (l : Nat → Int → Option ρ) (B : Nat → Option ρ) (e : ρ) (Inv : Nat → Prop)
    (hs : ∀ i, i < n → Inv i → ∀ r, Ev (elimB (B i) (fun k => l k ((i + 1 : Nat) : Int))) r → Ev (fun k => l k (i : Int)) r)
    (hi : ∀ i, i < n → Inv i → B i = none → Inv (i + 1))
    (he : Inv n → Ev (fun k => l k (n : Int)) e) : ∀ d i, i + d = n → Inv i → Ev (fun k => l k (i : Int)) (runU B e d i)
  | 0, i, hd, hI => by
    have h : i = n := by omega
    subst h
    exact he hI
  | d + 1, i, hd, hI => by
    refine hs i (by omega) hI _ ?_
    cases hB : B i with
    | none =>
      simp only [runU, hB]
      exact loopI n l B e Inv hs hi he d (i + 1) (by omega) (hi i (by omega) hI hB)
    | some r =>
      simp only [runU, hB]
      exact Ev.now _
theorem runU_none {ρ : Type} {B : Nat → Option ρ} {e : ρ} (hB : ∀ i v, B i = some v → v ≠ e) : ∀ d i, runU B e d i = e → ∀ j, i ≤ j → j < i + d → B j = none
  | 0, i, _, j, h0, h1 => by omega
  | d + 1, i, h, j, h0, h1 => by
    simp only [runU] at h
    cases hb : B i with
    | none =>
      rw [hb] at h
      by_cases e : j = i
      · subst e; exact hb
      · exact runU_none hB d (i + 1) h j (by omega) (by omega)
    | some v =>
      rw [hb] at h
      exact absurd h (hB i v hb)
theorem sz_ev2 {α : Type} (xs : List α) (Q : α → Prop) (l : Nat → Int → Int → Option Int)
    (hs : ∀ (left : Int) (i : Nat) (hi : i < xs.length), 0 ≤ left → left ≤ 1048576 → ∃ r, r ≤ left ∧ ((r < 0 ∧ Ev (fun k => l k left (i : Int)) (-1)) ∨ (0 ≤ r ∧ Q xs[i] ∧ ∀ q, Ev (fun k => l k r ((i + 1 : Nat) : Int)) q → Ev (fun k => l k left (i : Int)) q)))
    (he : ∀ left, Ev (fun k => l k left (xs.length : Int)) left) : ∀ (d i : Nat) (left : Int), i + d = xs.length → 0 ≤ left → left ≤ 1048576 → ∃ r, Ev (fun k => l k left (i : Int)) r ∧ r ≤ left ∧ (r < 0 ∨ ∀ (j : Nat) (h : j < xs.length), i ≤ j → Q xs[j])
  | 0, i, left, hd, h0, h1 => by
    have e : i = xs.length := by omega
    subst e
    exact ⟨left, he left, Int.le_refl _, .inr (fun j h hj => by omega)⟩
  | d + 1, i, left, hd, h0, h1 => by
    obtain ⟨r, hr, h⟩ := hs left i (by omega) h0 h1
    rcases h with ⟨hn, h⟩ | ⟨hp, hQ, h⟩
    · exact ⟨-1, h, by omega, .inl (by omega)⟩
    · obtain ⟨q, hq, hql, hqQ⟩ := sz_ev2 xs Q l hs he d (i + 1) r (by omega) hp (by omega)
      refine ⟨q, h q hq, by omega, hqQ.imp id (fun hz j hj hij => ?_)⟩
      by_cases e : j = i
      · subst e; exact hQ
      · exact hz j hj (by omega)
theorem to_ev20 {α β : Type} (xs : List α) (conv : α → β) (l : Nat → List β → Int → Option (List β))
    (hs : ∀ (out : List β) (i : Nat) (hi : i < xs.length), out.length = xs.length → ∀ r, Ev (fun k => l k (out.set i (conv xs[i])) ((i + 1 : Nat) : Int)) r → Ev (fun k => l k out (i : Int)) r)
    (he : ∀ out, out.length = xs.length → Ev (fun k => l k out (xs.length : Int)) out) : ∀ d i out, i + d = xs.length → out.length = xs.length → out.take i = (xs.take i).map conv → Ev (fun k => l k out (i : Int)) (xs.map conv)
  | 0, i, out, hd, ho, ht => by
    have e : i = xs.length := by omega
    subst e
    rw [List.take_of_length_le (by omega), List.take_of_length_le (Nat.le_refl _)] at ht
    rw [← ht]
    exact he out ho
  | d + 1, i, out, hd, ho, ht => by
    have hi : i < xs.length := by omega
    refine hs out i hi ho _ (to_ev20 xs conv l hs he d (i + 1) _ (by omega) (by rw [List.length_set]; exact ho) ?_)
    rw [List.take_succ_eq_append_getElem (by rw [List.length_set]; omega), List.take_succ_eq_append_getElem hi, List.getElem_set_self, List.take_set_of_le (Nat.le_refl i), ht, List.map_append]
    rfl
theorem to_ev2 {α β : Type} (xs : List α) (conv : α → β) (z : β) (l : Nat → List β → Int → Option (List β))
    (hs : ∀ (out : List β) (i : Nat) (hi : i < xs.length), out.length = xs.length → ∀ r, Ev (fun k => l k (out.set i (conv xs[i])) ((i + 1 : Nat) : Int)) r → Ev (fun k => l k out (i : Int)) r)
    (he : ∀ out, out.length = xs.length → Ev (fun k => l k out (xs.length : Int)) out) : Ev (fun k => l k (List.replicate xs.length z) 0) (xs.map conv) :=
  to_ev20 xs conv l hs he xs.length 0 _ (by omega) (by simp) rfl
theorem all_ev2 {ρ : Type} (n : Nat) (l : Nat → Int → Option ρ) (r : ρ) (hs : ∀ (i : Nat), i < n → ∀ q, Ev (fun k => l k ((i + 1 : Nat) : Int)) q → Ev (fun k => l k (i : Int)) q) (he : Ev (fun k => l k (n : Int)) r) : ∀ d i, i + d = n → Ev (fun k => l k (i : Int)) r
  | 0, i, hd => by
    have e : i = n := by omega
    subst e
    exact he
  | d + 1, i, hd => hs i (by omega) _ (all_ev2 n l r hs he d (i + 1) (by omega))
end Go.Proofs.YtgnenhehcdekkadGreatDoor.PL
namespace Go.Proofs.YtgnenhehcdekkadGreatDoor.A
open Go.RowKit Go.Proofs.YtgnenhehcdekkadGreatDoorW.PrintWords Go.Proofs.YtgnenhehcdekkadGreatDoorW.PrintLast Go.Proofs.YtgnenhehcdekkadGreatDoor.PL
set_option linter.unusedSimpArgs false
def inB (a lo hi : Int) : Bool := decide (lo ≤ a) && decide (a ≤ hi)
theorem inB_t {a lo hi : Int} (h0 : lo ≤ a) (h1 : a ≤ hi) : inB a lo hi = true := by simp [inB, h0, h1]
theorem inB_iff {a lo hi : Int} : inB a lo hi = true ↔ lo ≤ a ∧ a ≤ hi := by simp [inB]
theorem inB_f {a lo hi : Int} : inB a lo hi = false ↔ ¬ (lo ≤ a ∧ a ≤ hi) := by simp [inB]
theorem in_eq (a lo hi : Int) : impl_in.f a lo hi = some (inB a lo hi) := by
  unfold impl_in.f inB
  by_cases h : lo ≤ a <;> simp [h]
theorem l1In_eq (a lo hi : Int) : spec_l1In.f a lo hi = some (inB a lo hi) := by
  unfold spec_l1In.f inB
  by_cases h : lo ≤ a <;> simp [h]
def numB (n : Int) : Bool := inB n (-1000000000) 1000000000
def numM (n : Int) : Int := if numB n = true then 0 else 3
theorem numB_iff {n : Int} : numB n = true ↔ -1000000000 ≤ n ∧ n ≤ 1000000000 := inB_iff
theorem numM_0 {n : Int} : numM n = 0 ↔ numB n = true := by unfold numM; split <;> simp_all
theorem NumFault_eq (n : Int) : impl_NumFault.f n = some (numM n) := by
  unfold impl_NumFault.f numM numB
  rw [in_eq, Option.bind_some]
  split <;> rfl
theorem l1Num_eq (n : Int) : spec_l1Num.f n = some (numB n) := by
  unfold spec_l1Num.f numB
  rw [l1In_eq, Option.bind_some]
def symC : List UInt8 := [97, 98, 99, 100, 101, 102, 103, 104, 105, 106, 107, 108, 109, 110, 111, 112, 113, 114, 115, 116, 117, 118, 119, 120, 121, 122, 43, 45, 42, 47, 60, 61, 63, 33]
theorem l2Byte_12 : ∀ n : Fin 256, spec_l2Byte.f 12 (n.val : Int) = some (symC.contains (UInt8.ofNat n.val)) := by decide +kernel
theorem l2Byte_ev (c : UInt8) : Ev (fun k => spec_l2Byte.f k (c.toNat : Int)) (symC.contains c) := by
  refine Ev.of (fun k => spec_l2Byte.mono _ k) (k := 12) ?_
  have h := l2Byte_12 ⟨c.toNat, c.toNat_lt⟩
  rw [UInt8.ofNat_toNat] at h
  exact h
def symB (s : ByteArray) : Bool := s.data.toList.all (symC.contains ·) && inB s.size 1 12
theorem runU_all (l : List UInt8) (e : Bool) : ∀ d i, i + d = l.length → runU (fun i => if symC.contains (l[i]?.getD 0) then none else some false) e d i = ((l.drop i).all (symC.contains ·) && e)
  | 0, i, h => by rw [List.drop_of_length_le (by omega)]; rfl
  | d + 1, i, h => by
    have hi : i < l.length := by omega
    rw [List.drop_eq_getElem_cons hi]
    simp only [runU, List.all_cons, List.getElem?_eq_getElem hi, Option.getD_some]
    by_cases c : symC.contains l[i] = true
    · rw [if_pos c, c, Bool.true_and]
      exact runU_all l e d (i + 1) (by omega)
    · rw [if_neg c]
      simp only [Bool.not_eq_true] at c
      rw [c]
      rfl
theorem l2Sym_ev (s : ByteArray) (hs : s.size ≤ 9223372036854775807) : Ev (fun k => spec_l2Sym.f k s) (symB s) := by
  refine Ev.congr (fun k => spec_l2Sym.f.eq_1 k _) ?_
  have h := loopU s.size (fun k i => spec_l2Sym.l0 k s i) (fun i => if symC.contains (s.data.toList[i]?.getD 0) then none else some false) (inB s.size 1 12) (fun i hi => by
    have hb := bt_data s i hi
    have hl : i < s.data.toList.length := by rw [data_length]; exact hi
    have hg := l2Byte_ev s.data.toList[i]
    rw [← hb] at hg
    rw [List.getElem?_eq_getElem hl, Option.getD_some]
    by_cases c : symC.contains s.data.toList[i] = true
    · rw [if_pos c]
      intro r hr
      refine Ev.step (fun k => spec_l2Sym.l0.eq_2 _ _ k) (Ev.ifp (by omega) (Ev.ifp (by omega) (Ev.bind hg (Ev.ifp c ?_))))
      rw [wrap_succ hi hs]
      exact hr
    · rw [if_neg c]
      exact Ev.step (fun k => spec_l2Sym.l0.eq_2 _ _ k) (Ev.ifp (by omega) (Ev.ifp (by omega) (Ev.bind hg (Ev.ifn c (Ev.now _))))))
    (Ev.step (fun k => spec_l2Sym.l0.eq_2 _ _ k) (Ev.ifn (by omega) (Ev.bind0 (l1In_eq _ _ _) (Ev.now _)))) s.size 0 (by omega)
  rw [runU_all _ _ s.size 0 (by rw [data_length]; omega), List.drop_zero] at h
  exact h
def symM (s : ByteArray) : Int := if symB s = true then 0 else 5
theorem dropWhile_nil {α : Type} (p : α → Bool) : ∀ l : List α, (l.dropWhile p = []) ↔ l.all p = true
  | [] => by simp
  | a :: l => by
    simp only [List.dropWhile_cons, List.all_cons]
    cases h : p a
    · simp
    · simpa using dropWhile_nil p l
theorem trimS_nil (l cs : List UInt8) : Lib.trimS l cs = [] ↔ l.all (cs.contains ·) = true := by
  unfold Lib.trimS Lib.trimLeftS
  rw [dropWhile_nil]
  unfold Lib.trimRightS
  constructor
  · intro h
    cases hd : l.reverse.dropWhile (cs.contains ·) with
    | nil =>
      have := (dropWhile_nil (cs.contains ·) l.reverse).mp hd
      simpa using this
    | cons a t =>
      exfalso
      rw [hd] at h
      have ha : cs.contains a = true := by
        have := List.all_eq_true.mp h a (by simp)
        exact this
      have hn : ¬ (cs.contains a = true) := by
        have := List.head?_dropWhile_not (cs.contains ·) l.reverse
        rw [hd] at this
        simpa using this
      exact hn ha
  · intro h
    have : l.reverse.all (cs.contains ·) = true := by simpa using h
    rw [(dropWhile_nil _ _).mpr this]
    rfl
theorem toList_mk (l : List UInt8) : ByteArray.toList ⟨l.toArray⟩ = l := by rw [ByteArray.toList_eq]
theorem SymFault_eq (s : ByteArray) (hs : s.size ≤ 9223372036854775807) : impl_SymFault.f s = some (symM s) := by
  unfold impl_SymFault.f
  rw [in_eq, Option.bind_some]
  unfold symM symB
  by_cases c : inB s.size 1 12 = true
  · rw [if_pos c, c, Bool.and_true]
    have ht : strings_Trim.f s (⟨#[97, 98, 99, 100, 101, 102, 103, 104, 105, 106, 107, 108, 109, 110, 111, 112, 113, 114, 115, 116, 117, 118, 119, 120, 121, 122, 43, 45, 42, 47, 60, 61, 63, 33]⟩ : ByteArray) = some ⟨(Lib.trimS s.data.toList symC).toArray⟩ := by
      unfold strings_Trim.f
      rw [if_pos ⟨hs, by decide, by decide⟩]
      rfl
    rw [ht, Option.bind_some, toList_mk]
    by_cases d : s.data.toList.all (symC.contains ·) = true
    · rw [if_pos ((trimS_nil _ _).mpr d), if_pos d]
    · rw [if_neg (fun h => d ((trimS_nil _ _).mp h)), if_neg d]
  · rw [if_neg c]
    rw [if_neg (by simp [c])]
def kindM (K a1 a2 a3 N : Int) (s : ByteArray) : Int := if K = a1 then numM N else if K = a3 then (if inB N 0 1 = true then 0 else 3) else if K = a2 then symM s else 0
theorem kindFault_eq (K a1 a2 a3 N : Int) (s : ByteArray) (hs : s.size ≤ 9223372036854775807) : impl_kindFault.f K a1 a2 a3 N s = some (kindM K a1 a2 a3 N s) := by
  unfold impl_kindFault.f kindM
  by_cases h1 : K = a1
  · rw [if_pos h1, if_pos h1, NumFault_eq, Option.bind_some]
  · rw [if_neg h1, if_neg h1]
    by_cases h3 : K = a3
    · rw [if_pos h3, if_pos h3, in_eq, Option.bind_some]
      split <;> rfl
    · rw [if_neg h3, if_neg h3]
      by_cases h2 : K = a2
      · rw [if_pos h2, if_pos h2, SymFault_eq s hs, Option.bind_some]
      · rw [if_neg h2, if_neg h2]
theorem rdDf_at {xs : List S69} {i : Nat} (h : i < xs.length) : rd_T69 xs (i : Int) = xs[i] := by simp [rd_T69, h]
def parD (xs : List S69) (at_ : Int) : Int := (rd_T69 xs at_).f1
def kindD (xs : List S69) (at_ : Int) : Int := (rd_T69 xs at_).f0
def upB (xs : List S69) : Nat → Int → Int → Bool
  | 0, _, _ => false
  | d + 1, at_, to_ => if 0 ≤ at_ then (if at_ = to_ then true else upB xs d (parD xs at_) to_) else false
def deepN (xs : List S69) : Nat → Int → Int → Int
  | 0, _, c => c
  | d + 1, at_, c => if 0 ≤ at_ then deepN xs d (parD xs at_) (c + 1) else c
def Ahead (xs : List S69) (n : Nat) : Prop := ∀ j : Nat, j < n → parD xs j < j
theorem isUp_ev (xs : List S69) (to_ : Int) (n : Nat) (hn : n ≤ xs.length) (hA : Ahead xs n) : ∀ (d : Nat) (at_ : Int), at_ < d → at_ < n → Ev (fun k => impl_isUp__impl_datumFault_1.l0 k to_ at_ xs) (upB xs d at_ to_)
  | 0, at_, h0, h1 => Ev.step (fun k => impl_isUp__impl_datumFault_1.l0.eq_2 _ _ _ k) (Ev.ifn (by omega) (Ev.now _))
  | d + 1, at_, h0, h1 => by
    refine Ev.step (fun k => impl_isUp__impl_datumFault_1.l0.eq_2 _ _ _ k) (Ev.iff (fun c => Ev.iff (fun e => Ev.leaf (by simp only [upB]; rw [if_pos c, if_pos e])) (fun e => ?_)) (fun c => Ev.leaf (by simp only [upB]; rw [if_neg c])))
    have hp : parD xs at_ < at_ := by
      have := hA at_.toNat (by omega)
      rwa [Int.toNat_of_nonneg c] at this
    refine Ev.bind0 (a := parD xs at_) (by unfold impl_datumFault_1.f; rw [if_pos c, if_pos (by omega)]; rfl) ?_
    simp only [upB]
    rw [if_pos c, if_neg e]
    exact isUp_ev xs to_ n hn hA d _ (by omega) (by omega)
theorem l3Line_ev (xs : List S69) (i : Int) (hi0 : 0 ≤ i) (hi1 : i < xs.length) (n : Nat) (hn : n ≤ xs.length) (hA : Ahead xs n) : ∀ (d : Nat) (at_ : Int), at_ < d → at_ < n → Ev (fun k => spec_l3Line.l0 k xs i at_) (upB xs d at_ (parD xs i) && kindD xs (parD xs i) == 4)
  | 0, at_, h0, h1 => Ev.step (fun k => spec_l3Line.l0.eq_2 _ _ _ k) (Ev.ifn (by omega) (Ev.now _))
  | d + 1, at_, h0, h1 => by
    refine Ev.step (fun k => spec_l3Line.l0.eq_2 _ _ _ k) (Ev.iff (fun c => Ev.ifp hi0 (Ev.ifp hi1 (Ev.iff (fun e => Ev.ifp c (Ev.ifp (by omega) (Ev.leaf ?_))) (fun e => Ev.ifp c (Ev.ifp (by omega) ?_))))) (fun c => Ev.leaf (by simp only [upB]; rw [if_neg c]; rfl)))
    · have e' : at_ = parD xs i := e
      simp only [upB]
      rw [if_pos c, if_pos e', Bool.true_and, ← e']
      rfl
    · have hp : parD xs at_ < at_ := by
        have := hA at_.toNat (by omega)
        rwa [Int.toNat_of_nonneg c] at this
      have hp' : (rd_T69 xs at_).f1 < at_ := hp
      have e' : ¬ at_ = parD xs i := e
      simp only [upB]
      rw [if_pos c, if_neg e']
      exact l3Line_ev xs i hi0 hi1 n hn hA d _ (by omega) (by omega)
theorem deep_ev (xs : List S69) (n : Nat) (hn : n ≤ xs.length) (hA : Ahead xs n) : ∀ (d : Nat) (at_ c : Int), at_ < d → at_ < n → 0 ≤ c → c + at_ < 1000000 → Ev (fun k => impl_deep.l0 k xs at_ c) (deepN xs d at_ c)
  | 0, at_, c, h0, h1, h2, h3 => Ev.step (fun k => impl_deep.l0.eq_2 _ _ _ k) (Ev.ifn (by omega) (Ev.now _))
  | d + 1, at_, c, h0, h1, h2, h3 => by
    refine Ev.step (fun k => impl_deep.l0.eq_2 _ _ _ k) (Ev.iff (fun e => Ev.ifp e (Ev.ifp (by omega) ?_)) (fun e => Ev.leaf (by simp only [deepN]; rw [if_neg e])))
    have hp : parD xs at_ < at_ := by
      have := hA at_.toNat (by omega)
      rwa [Int.toNat_of_nonneg e] at this
    have hp' : (rd_T69 xs at_).f1 < at_ := hp
    rw [wrap_id (by omega) (by omega)]
    simp only [deepN]
    rw [if_pos e]
    exact deep_ev xs n hn hA d _ _ (by omega) (by omega) (by omega) (by omega)
theorem l3Deep_ev (xs : List S69) (n : Nat) (hn : n ≤ xs.length) (hA : Ahead xs n) : ∀ (d : Nat) (at_ c : Int), at_ < d → at_ < n → 0 ≤ c → c + at_ < 100 → Ev (fun k => spec_l3Deep.l0 k xs at_ c) (deepN xs d at_ c)
  | 0, at_, c, h0, h1, h2, h3 => Ev.step (fun k => spec_l3Deep.l0.eq_2 _ _ _ k) (Ev.ifn (by omega) (Ev.now _))
  | d + 1, at_, c, h0, h1, h2, h3 => by
    refine Ev.step (fun k => spec_l3Deep.l0.eq_2 _ _ _ k) (Ev.iff (fun e => Ev.ifp (by omega) (Ev.ifp e (Ev.ifp (by omega) ?_))) (fun e => Ev.leaf (by simp only [deepN]; rw [if_neg e])))
    have hp : parD xs at_ < at_ := by
      have := hA at_.toNat (by omega)
      rwa [Int.toNat_of_nonneg e] at this
    have hp' : (rd_T69 xs at_).f1 < at_ := hp
    rw [wrap_id (by omega) (by omega)]
    simp only [deepN]
    rw [if_pos e]
    exact l3Deep_ev xs n hn hA d _ _ (by omega) (by omega) (by omega) (by omega)
def bareB (K N : Int) (s : ByteArray) : Bool := inB K 1 4 && (N == 0 || K == 1 || K == 2) && (s.toList.isEmpty || K == 3)
def datStep (xs : List S69) (x : S69) (i : Nat) : Option Int :=
  if bareB x.f0 x.f2 x.f3 = true then (if kindM x.f0 1 3 2 x.f2 x.f3 = 0 then (if i = 0 then (if x.f1 = -1 then none else some 3) else (if inB x.f1 0 ((i : Int) - 1) = true then (if (upB xs i ((i : Int) - 1) x.f1 && kindD xs x.f1 == 4) = true then (if 12 < deepN xs (i + 1) i 0 then some 2 else none) else some 1) else some 3)) else some (kindM x.f0 1 3 2 x.f2 x.f3)) else some 1
def datAt (xs : List S69) (i : Nat) : Option Int := if h : i < xs.length then datStep xs xs[i] i else none
def dataM (xs : List S69) : Int := if inB xs.length 1 80 = true then runU (datAt xs) 0 xs.length 0 else 2
def okD (xs : List S69) : Prop := ∀ x ∈ xs, x.f3.size ≤ 9223372036854775807
theorem ahead_next {xs : List S69} {i : Nat} (hi : i < xs.length) (hA : Ahead xs i) (h : xs[i].f1 < i) : Ahead xs (i + 1) := by
  intro j hj
  by_cases e : j = i
  · subst e; unfold parD; rw [rdDf_at hi]; exact h
  · exact hA j (by omega)
theorem datAt_ahead {xs : List S69} {i : Nat} (hi : i < xs.length) (hA : Ahead xs i) (h : datAt xs i = none) : Ahead xs (i + 1) := by
  refine ahead_next hi hA ?_
  unfold datAt at h
  rw [dif_pos hi] at h
  unfold datStep at h
  repeat' split at h
  all_goals first | (cases h; done) | skip
  all_goals first | omega | (have z := inB_iff.mp (by assumption : inB _ 0 _ = true); omega)
theorem nb_t {x : Bool} (h : true = !x) : ¬ (x = true) := by cases x <;> simp_all
theorem kind_range (K N : Int) (s : ByteArray) (h : true = ((K == 1 && !numB N) || (K == 2 && !inB N 0 1))) : kindM K 1 3 2 N s = 3 := by
  unfold kindM numM
  by_cases z1 : K = 1
  · subst z1
    rw [if_pos rfl]
    cases hz : numB N
    · rfl
    · rw [hz] at h; simp at h
  · rw [if_neg z1]
    by_cases z2 : K = 2
    · subst z2
      rw [if_pos rfl]
      cases hz : inB N 0 1
      · rfl
      · rw [hz] at h; simp at h
    · simp [z1, z2] at h
theorem kind_plain (K N : Int) (s : ByteArray) (h : false = ((K == 1 && !numB N) || (K == 2 && !inB N 0 1))) : kindM K 1 3 2 N s = if K = 3 then symM s else 0 := by
  unfold kindM numM
  by_cases z1 : K = 1
  · subst z1
    rw [if_pos rfl]
    cases hz : numB N
    · rw [hz] at h; simp at h
    · simp
  · rw [if_neg z1]
    by_cases z2 : K = 2
    · subst z2
      rw [if_pos rfl]
      cases hz : inB N 0 1
      · rw [hz] at h; simp at h
      · simp
    · rw [if_neg z2]
theorem datumFault_step (xs : List S69) (hx : okD xs) (hl : xs.length ≤ 80) (i : Nat) (hi : i < xs.length) (hA : Ahead xs i) : Ev (fun k => impl_datumFault.f k xs (i : Int)) ((datAt xs i).getD 0) ∧ (datAt xs i ≠ some 0) := by
  have hm := hx xs[i] (List.getElem_mem hi)
  have e0 : datAt xs i = datStep xs xs[i] i := by unfold datAt; rw [dif_pos hi]
  have hk0 : ∀ v, kindM xs[i].f0 1 3 2 xs[i].f2 xs[i].f3 = v → v = 0 ∨ v ≠ 0 := fun v _ => by omega
  refine ⟨?_, by rw [e0]; unfold datStep; repeat' split
                 all_goals simp_all⟩
  rw [e0]
  have hj : ∀ (hb : bareB xs[i].f0 xs[i].f2 xs[i].f3 = true), Ev (fun k => impl_datumFault.j0 k (i : Int) xs xs[i].f0 xs[i].f1 xs[i].f2 xs[i].f3) ((datStep xs xs[i] i).getD 0) := fun hb => by
    refine Ev.step (fun k => impl_datumFault.j0.eq_2 _ _ _ _ _ _ k) (Ev.bind0 (kindFault_eq _ _ _ _ _ _ hm) (Ev.iff (fun c0 => ?_) (fun c0 => Ev.leaf (by unfold datStep; rw [if_pos hb, if_neg c0]; rfl))))
    refine Ev.iff (fun c1 => Ev.iff (fun c2 => Ev.leaf (by unfold datStep; rw [if_pos hb, if_pos c0, if_pos (by omega), if_pos c2]; rfl)) (fun c2 => Ev.leaf (by unfold datStep; rw [if_pos hb, if_pos c0, if_pos (by omega), if_neg c2]; rfl))) (fun c1 => ?_)
    rw [wrap_id (by omega) (by omega)]
    refine Ev.bind0 (in_eq _ _ _) (Ev.iff (fun c2 => ?_) (fun c2 => Ev.leaf (by unfold datStep; rw [if_pos hb, if_pos c0, if_neg (by omega), if_neg c2]; rfl)))
    have hp := inB_iff.mp c2
    have hup := isUp_ev xs xs[i].f1 i (by omega) hA i ((i : Int) - 1) (by omega) (by omega)
    have hj1 : ∀ b : Bool, b = !(upB xs i ((i : Int) - 1) xs[i].f1 && kindD xs xs[i].f1 == 4) → Ev (fun k => impl_datumFault.j1 k (i : Int) b xs) ((datStep xs xs[i] i).getD 0) := fun b hb1 => by
      have hA1 : Ahead xs (i + 1) := ahead_next hi hA (by omega)
      refine Ev.step (fun k => impl_datumFault.j1.eq_2 _ _ _ k) (Ev.iff (fun c => Ev.leaf ?_) (fun c => ?_))
      · have c' : ¬ ((upB xs i ((i : Int) - 1) xs[i].f1 && kindD xs xs[i].f1 == 4) = true) := by rw [c] at hb1; exact nb_t hb1
        unfold datStep; rw [if_pos hb, if_pos c0, if_neg (by omega), if_pos c2, if_neg c']; rfl
      · have c' : (upB xs i ((i : Int) - 1) xs[i].f1 && kindD xs xs[i].f1 == 4) = true := by
          simp only [Bool.not_eq_true] at c
          rw [c] at hb1
          cases hz : (upB xs i ((i : Int) - 1) xs[i].f1 && kindD xs xs[i].f1 == 4)
          · rw [hz] at hb1; cases hb1
          · rfl
        have hd := deep_ev xs (i + 1) (by omega) hA1 (i + 1) (i : Int) 0 (by omega) (by omega) (by omega) (by omega)
        refine Ev.bind (Ev.congr (fun k => impl_deep.f.eq_1 k _ _) hd) (Ev.iff (fun c3 => Ev.leaf ?_) (fun c3 => Ev.leaf ?_))
        · unfold datStep; rw [if_pos hb, if_pos c0, if_neg (by omega), if_pos c2, if_pos c', if_pos (by omega)]; rfl
        · unfold datStep; rw [if_pos hb, if_pos c0, if_neg (by omega), if_pos c2, if_pos c', if_neg (by omega)]; rfl
    refine Ev.ifp (by omega) (Ev.ifp (by omega) (Ev.iff (fun c3 => ?_) (fun c3 => ?_)))
    · refine Ev.bind (Ev.congr (fun k => impl_isUp__impl_datumFault_1.f.eq_1 k _ _ _) hup) (hj1 _ ?_)
      have c3' : kindD xs xs[i].f1 = 4 := c3
      simp [c3']
    · refine hj1 _ ?_
      have c3' : ¬ kindD xs xs[i].f1 = 4 := c3
      simp [c3']
  have h1 : bareB xs[i].f0 xs[i].f2 xs[i].f3 = false → some ((datStep xs xs[i] i).getD 0) = some (1 : Int) := fun hb => by
    unfold datStep; rw [if_neg (by rw [hb]; decide)]; rfl
  refine Ev.congr (fun k => impl_datumFault.f.eq_1 k _ _) (Ev.ifp (by omega) (Ev.ifp (by omega) ?_))
  rw [rdDf_at hi]
  refine Ev.bind0 (in_eq _ _ _) ?_
  have fin : ∀ b, b = bareB xs[i].f0 xs[i].f2 xs[i].f3 → b = true → Ev (fun k => impl_datumFault.j0 k (i : Int) xs xs[i].f0 xs[i].f1 xs[i].f2 xs[i].f3) ((datStep xs xs[i] i).getD 0) := fun b hb h => hj (by rw [← hb]; exact h)
  repeat' first
    | refine Ev.iff (fun _ => ?_) (fun _ => ?_)
    | refine hj ?_
    | refine Ev.leaf (Option.some.inj (h1 ?_).symm)
  all_goals clear hj h1 fin
  all_goals simp_all [bareB]
theorem implData_ev (xs : List S69) (hx : okD xs) : Ev (fun k => impl_DataFault.f k xs) (dataM xs) := by
  refine Ev.congr (fun k => impl_DataFault.f.eq_1 k _) (Ev.bind0 (in_eq _ _ _) (Ev.iff (fun h => ?_) (fun h => Ev.leaf (by unfold dataM; rw [if_neg h]))))
  have hh := inB_iff.mp h
  have hL := loopI xs.length (fun k i => impl_DataFault.l0 k xs (xs.length : Int) i) (datAt xs) 0 (Ahead xs) (fun i hi hA r hr => by
    obtain ⟨hd, hd0⟩ := datumFault_step xs hx (by omega) i hi hA
    refine Ev.step (fun k => impl_DataFault.l0.eq_2 _ _ _ k) (Ev.ifp (by omega) (Ev.bind hd ?_))
    cases hB : datAt xs i with
    | none => rw [wrap_succ hi (by omega)]; exact Ev.ifp rfl (Ev.go hr hB)
    | some v => exact Ev.ifn (fun hv => hd0 (by rw [hB]; exact congrArg some hv)) (Ev.stop hr (by rw [hB]; rfl)))
    (fun i hi hA hB => datAt_ahead hi hA hB)
    (fun _ => Ev.step (fun k => impl_DataFault.l0.eq_2 _ _ _ k) (Ev.ifn (by omega) (Ev.now _))) xs.length 0 (by omega) (fun j hj => by omega)
  unfold dataM
  rw [if_pos h]
  exact hL
theorem l3Bare_eq (K P N : Int) (s : ByteArray) : spec_l3Bare.f K P N s = some (bareB K N s) := by
  unfold spec_l3Bare.f bareB
  rw [l1In_eq]
  simp only [Option.bind_some]
  by_cases h1 : K = 1 <;> by_cases h2 : K = 2 <;> by_cases h3 : K = 3 <;> by_cases h4 : N = 0 <;> cases h5 : inB K 1 4 <;> simp_all [eq_nil_b]
theorem l3Fault_ev (xs : List S69) (hx : okD xs) : Ev (fun k => spec_l3Fault.f k xs) (dataM xs) := by
  have hL : inB xs.length 1 80 = true → Ev (fun k => spec_l3Fault.l0 k xs 0) (dataM xs) := fun h => by
    have hh := inB_iff.mp h
    have hL := loopI xs.length (fun k i => spec_l3Fault.l0 k xs i) (datAt xs) 0 (Ahead xs) (fun i hi hA r hr => by
      have hm := hx xs[i] (List.getElem_mem hi)
      have e0 : datAt xs i = datStep xs xs[i] i := by unfold datAt; rw [dif_pos hi]
      refine Ev.step (fun k => spec_l3Fault.l0.eq_2 _ _ k) (Ev.ifp (by omega) (Ev.ifp (by omega) ?_))
      rw [rdDf_at hi]
      refine Ev.bind0 (l3Bare_eq _ _ _ _) (Ev.iff (fun hb => ?_) (fun hb => Ev.stop hr (by rw [e0]; unfold datStep; rw [if_neg hb])))
      have j5 : kindM xs[i].f0 1 3 2 xs[i].f2 xs[i].f3 = 0 → (i = 0 → xs[i].f1 = -1) → (i ≠ 0 → inB xs[i].f1 0 ((i : Int) - 1) = true) → ∀ b : Bool, b = (decide (0 < i) && !(upB xs i ((i : Int) - 1) xs[i].f1 && kindD xs xs[i].f1 == 4)) → Ev (fun k => spec_l3Fault.j5 k xs (i : Int) b) r := fun c0 c1 c2 b hb5 => by
        have hA1 : Ahead xs (i + 1) := ahead_next hi hA (by
          by_cases z : i = 0
          · have := c1 z; omega
          · have := (inB_iff.mp (c2 z)).2; omega)
        refine Ev.step (fun k => spec_l3Fault.j5.eq_2 _ _ _ k) (Ev.iff (fun c => ?_) (fun c => ?_))
        · have hi0 : i ≠ 0 := fun z => by subst z; rw [c] at hb5; simp at hb5
          refine Ev.stop hr ?_
          have c' : ¬ ((upB xs i ((i : Int) - 1) xs[i].f1 && kindD xs xs[i].f1 == 4) = true) := by
            rw [c] at hb5
            intro z
            rw [z] at hb5
            simp at hb5
          rw [e0]; unfold datStep; rw [if_pos hb, if_pos c0, if_neg hi0, if_pos (c2 hi0), if_neg c']
        · have hd := l3Deep_ev xs (i + 1) (by omega) hA1 (i + 1) (i : Int) 0 (by omega) (by omega) (by omega) (by omega)
          refine Ev.bind (Ev.congr (fun k => spec_l3Deep.f.eq_1 k _ _) hd) ?_
          by_cases z : i = 0
          · have hd0 : deepN xs (i + 1) (i : Int) 0 = 1 := by
              subst z
              simp only [deepN]
              rw [if_pos (by omega)]
              rfl
            rw [hd0, wrap_succ hi (by omega)]
            refine Ev.ifn (by omega) (Ev.go hr ?_)
            rw [e0]; unfold datStep; rw [if_pos hb, if_pos c0, if_pos z, if_pos (c1 z)]
          · have c' : (upB xs i ((i : Int) - 1) xs[i].f1 && kindD xs xs[i].f1 == 4) = true := by
              simp only [Bool.not_eq_true] at c
              rw [c] at hb5
              have z' : decide (0 < i) = true := by simp; omega
              rw [z', Bool.true_and] at hb5
              cases hz : (upB xs i ((i : Int) - 1) xs[i].f1 && kindD xs xs[i].f1 == 4)
              · rw [hz] at hb5; cases hb5
              · rfl
            refine Ev.iff (fun c3 => Ev.stop hr ?_) (fun c3 => ?_)
            · rw [e0]; unfold datStep; rw [if_pos hb, if_pos c0, if_neg z, if_pos (c2 z), if_pos c', if_pos (by omega)]
            · rw [wrap_succ hi (by omega)]
              refine Ev.go hr ?_
              rw [e0]; unfold datStep; rw [if_pos hb, if_pos c0, if_neg z, if_pos (c2 z), if_pos c', if_neg (by omega)]
      have j4 : kindM xs[i].f0 1 3 2 xs[i].f2 xs[i].f3 = 0 → ∀ b : Bool, b = (if i = 0 then xs[i].f1 != -1 else !inB xs[i].f1 0 ((i : Int) - 1)) → Ev (fun k => spec_l3Fault.j4 k xs (i : Int) b) r := fun c0 b hb4 => by
        refine Ev.step (fun k => spec_l3Fault.j4.eq_2 _ _ _ k) (Ev.iff (fun c => Ev.stop hr ?_) (fun c => ?_))
        · rw [c] at hb4
          by_cases z : i = 0
          · rw [if_pos z] at hb4
            have : ¬ xs[i].f1 = -1 := by simpa using hb4.symm
            rw [e0]; unfold datStep; rw [if_pos hb, if_pos c0, if_pos z, if_neg this]
          · rw [if_neg z] at hb4
            have : ¬ (inB xs[i].f1 0 ((i : Int) - 1) = true) := by simpa using hb4.symm
            rw [e0]; unfold datStep; rw [if_pos hb, if_pos c0, if_neg z, if_neg this]
        · simp only [Bool.not_eq_true] at c
          rw [c] at hb4
          have c1 : i = 0 → xs[i].f1 = -1 := fun z => by rw [if_pos z] at hb4; simpa using hb4.symm
          have c2 : i ≠ 0 → inB xs[i].f1 0 ((i : Int) - 1) = true := fun z => by rw [if_neg z] at hb4; simpa using hb4.symm
          refine Ev.iff (fun c3 => ?_) (fun c3 => j5 c0 c1 c2 _ (by
            have : i = 0 := by omega
            subst this; simp))
          have hp := inB_iff.mp (c2 (by omega))
          have hl := l3Line_ev xs (i : Int) (by omega) (by omega) i (by omega) hA i ((i : Int) - 1) (by omega) (by omega)
          have ep : parD xs (i : Int) = xs[i].f1 := by unfold parD; rw [rdDf_at hi]
          rw [ep] at hl
          refine Ev.bind (Ev.congr (fun k => by rw [spec_l3Line.f.eq_1, wrap_id (by omega) (by omega)]) hl) (j5 c0 c1 c2 _ ?_)
          have z' : decide (0 < i) = true := by simp; omega
          rw [z', Bool.true_and]
      have j3 : ∀ b : Bool, kindM xs[i].f0 1 3 2 xs[i].f2 xs[i].f3 = (if b = true then 5 else 0) → Ev (fun k => spec_l3Fault.j3 k xs (i : Int) b) r := fun b hb3 => by
        refine Ev.step (fun k => spec_l3Fault.j3.eq_2 _ _ _ k) (Ev.iff (fun c => Ev.stop hr ?_) (fun c => ?_))
        · rw [if_pos c] at hb3
          rw [e0]; unfold datStep; rw [if_pos hb, if_neg (by omega), hb3]
        · rw [if_neg c] at hb3
          rw [rdDf_at hi]
          refine Ev.iff (fun c1 => Ev.ifp (by omega) (Ev.ifp (by omega) (Ev.iff (fun c2 => Ev.ifn (by omega) (j4 hb3 _ ?_)) (fun c2 => j4 hb3 _ ?_)))) (fun c1 => Ev.ifp (by omega) (Ev.ifp (by omega) (Ev.ifp (by omega) ?_)))
          · rw [if_pos (by omega), c2]; rfl
          · rw [if_pos (by omega)]; simpa using c2
          · rw [wrap_id (by omega) (by omega)]
            refine Ev.bind0 (l1In_eq _ _ _) (j4 hb3 _ ?_)
            rw [if_neg (by omega)]
      have hin := (Bool.and_eq_true_iff.mp (Bool.and_eq_true_iff.mp hb).1).1
      have hin' := inB_iff.mp hin
      have j2 : ∀ b : Bool, b = ((xs[i].f0 == 1 && !numB xs[i].f2) || (xs[i].f0 == 2 && !inB xs[i].f2 0 1)) → Ev (fun k => spec_l3Fault.j2 k xs (i : Int) b) r := fun b hb2 => by
        refine Ev.step (fun k => spec_l3Fault.j2.eq_2 _ _ _ k) (Ev.iff (fun c => Ev.stop hr ?_) (fun c => ?_))
        · have hk : kindM xs[i].f0 1 3 2 xs[i].f2 xs[i].f3 = 3 := kind_range _ _ _ (by rw [c] at hb2; exact hb2)
          rw [e0]; unfold datStep; rw [if_pos hb, if_neg (by omega), hk]
        · simp only [Bool.not_eq_true] at c
          rw [c] at hb2
          have hk := kind_plain xs[i].f0 xs[i].f2 xs[i].f3 hb2
          refine Ev.ifp (by omega) (Ev.ifp (by omega) ?_)
          rw [rdDf_at hi]
          refine Ev.iff (fun c3 => Ev.bind (l2Sym_ev _ hm) (j3 _ ?_)) (fun c3 => j3 _ ?_)
          · rw [hk, if_pos c3]
            unfold symM
            cases symB xs[i].f3 <;> rfl
          · rw [hk, if_neg c3]
            rfl
      repeat' first
        | refine Ev.iff (fun _ => ?_) (fun _ => ?_)
        | refine Ev.bind0 (l1Num_eq _) ?_
        | refine Ev.bind0 (l1In_eq _ _ _) ?_
        | refine j2 _ ?_
      all_goals clear j2 j3 j4 j5
      all_goals simp_all)
      (fun i hi hA hB => datAt_ahead hi hA hB)
      (fun _ => Ev.step (fun k => spec_l3Fault.l0.eq_2 _ _ k) (Ev.ifn (by omega) (Ev.now _))) xs.length 0 (by omega) (fun j hj => by omega)
    unfold dataM
    rw [if_pos h]
    exact hL
  have j0 : ∀ b : Bool, b = !inB xs.length 1 80 → Ev (fun k => spec_l3Fault.j0 k xs b) (dataM xs) := fun b hb => by
    refine Ev.step (fun k => spec_l3Fault.j0.eq_2 _ _ k) (Ev.iff (fun c => Ev.leaf ?_) (fun c => hL ?_))
    · unfold dataM
      rw [if_neg (fun z => by rw [c, z] at hb; cases hb)]
    · simp only [Bool.not_eq_true] at c
      rw [c] at hb
      simpa using hb.symm
  refine Ev.congr (fun k => spec_l3Fault.f.eq_1 k _) (Ev.iff (fun c => j0 _ ?_) (fun c => j0 _ ?_))
  · rw [inB_f.mpr (by omega)]; rfl
  · unfold inB
    have : decide ((1 : Int) ≤ xs.length) = true := by simp; omega
    rw [this, Bool.true_and]
    by_cases z : (xs.length : Int) ≤ 80
    · have z' : ¬ (xs.length : Int) > 80 := by omega
      simp [z, z']
    · have z' : (xs.length : Int) > 80 := by omega
      simp [z, z']
def partsU (xs : List S69) (a : Int) : Nat → Nat → List Int
  | 0, _ => []
  | d + 1, i => (if parD xs i = a then [(i : Int)] else []) ++ partsU xs a d (i + 1)
theorem partsU_length (xs : List S69) (a : Int) : ∀ d i, (partsU xs a d i).length ≤ d
  | 0, _ => by simp [partsU]
  | d + 1, i => by
    have := partsU_length xs a d (i + 1)
    simp only [partsU, List.length_append]
    split <;> simp <;> omega
theorem parts_ev (xs : List S69) (a : Int) (hl : xs.length ≤ 1048576) : ∀ d i acc, i + d = xs.length → acc.length + d ≤ 1048576 → Ev (fun k => impl_parts.l0 k a acc xs (xs.length : Int) (i : Int)) (acc ++ partsU xs a d i)
  | 0, i, acc, hd, ha => by
    have e : i = xs.length := by omega
    subst e
    exact Ev.step (fun k => impl_parts.l0.eq_2 _ _ _ _ _ k) (Ev.ifn (by omega) (Ev.leaf (by simp [partsU])))
  | d + 1, i, acc, hd, ha => by
    have hi : i < xs.length := by omega
    refine Ev.step (fun k => impl_parts.l0.eq_2 _ _ _ _ _ k) (Ev.ifp (by omega) (Ev.ifp (by omega) (Ev.ifp (by omega) (Ev.iff (fun c => Ev.ifp (by omega) ?_) (fun c => ?_)))))
    · rw [wrap_succ hi (by omega)]
      refine Ev.cast (parts_ev xs a hl d (i + 1) _ (by omega) (by simp; omega)) ?_
      simp only [partsU]
      rw [if_pos (show parD xs i = a from c), List.append_assoc]
    · rw [wrap_succ hi (by omega)]
      refine Ev.cast (parts_ev xs a hl d (i + 1) _ (by omega) (by omega)) ?_
      simp only [partsU]
      rw [if_neg (show ¬ parD xs i = a from c), List.nil_append]
theorem l3Parts_ev (xs : List S69) (a : Int) (hl : xs.length ≤ 1048576) : ∀ d i acc, i + d = xs.length → acc.length + d ≤ 1048576 → Ev (fun k => spec_l3Parts.l0 k xs a acc (i : Int)) (acc ++ partsU xs a d i)
  | 0, i, acc, hd, ha => by
    have e : i = xs.length := by omega
    subst e
    exact Ev.step (fun k => spec_l3Parts.l0.eq_2 _ _ _ _ k) (Ev.ifn (by omega) (Ev.leaf (by simp [partsU])))
  | d + 1, i, acc, hd, ha => by
    have hi : i < xs.length := by omega
    refine Ev.step (fun k => spec_l3Parts.l0.eq_2 _ _ _ _ k) (Ev.ifp (by omega) (Ev.ifp (by omega) (Ev.iff (fun c => Ev.ifp (by omega) ?_) (fun c => ?_))))
    · rw [wrap_succ hi (by omega)]
      refine Ev.cast (l3Parts_ev xs a hl d (i + 1) _ (by omega) (by simp; omega)) ?_
      simp only [partsU]
      rw [if_pos (show parD xs i = a from c), List.append_assoc]
    · rw [wrap_succ hi (by omega)]
      refine Ev.cast (l3Parts_ev xs a hl d (i + 1) _ (by omega) (by omega)) ?_
      simp only [partsU]
      rw [if_neg (show ¬ parD xs i = a from c), List.nil_append]
def partsM (xs : List S69) (a : Int) : List Int := partsU xs a xs.length 0
theorem implParts_ev (xs : List S69) (a : Int) (hl : xs.length ≤ 1048576) : Ev (fun k => impl_parts.f k xs a) (partsM xs a) :=
  Ev.congr (fun k => impl_parts.f.eq_1 k _ _) (Ev.cast (parts_ev xs a hl xs.length 0 [] (by omega) (by simp; omega)) (by simp [partsM]))
theorem specParts_ev (xs : List S69) (a : Int) (hl : xs.length ≤ 1048576) : Ev (fun k => spec_l3Parts.f k xs a) (partsM xs a) :=
  Ev.congr (fun k => spec_l3Parts.f.eq_1 k _ _) (Ev.cast (l3Parts_ev xs a hl xs.length 0 [] (by omega) (by simp; omega)) (by simp [partsM]))
theorem datAt_ne0 {xs : List S69} (j : Nat) (v : Int) (h : datAt xs j = some v) : v ≠ 0 := by
  unfold datAt at h
  split at h
  · unfold datStep at h
    repeat' split at h
    all_goals first | (cases h; done) | (obtain rfl := Option.some.inj h; first | omega | assumption)
  · cases h
theorem data_none {xs : List S69} (h : dataM xs = 0) (j : Nat) (hj : j < xs.length) : datAt xs j = none := by
  unfold dataM at h
  split at h
  · exact runU_none (datAt_ne0 (xs := xs)) xs.length 0 h j (by omega) (by omega)
  · omega
theorem data_ahead {xs : List S69} (h : dataM xs = 0) : Ahead xs xs.length := by
  have : ∀ n, n ≤ xs.length → Ahead xs n := fun n => by
    induction n with
    | zero => intro _ j hj; omega
    | succ n ih => intro hn; exact datAt_ahead (by omega) (ih (by omega)) (data_none h n (by omega))
  exact this xs.length (Nat.le_refl _)
def dig (n : Int) : ByteArray := ⟨(Lib.itoa n).toArray⟩
theorem dec_eq {n : Int} (h : numB n = true) : impl_dec.f n = some (dig n) := by
  have h2 := numB_iff.mp h
  unfold impl_dec.f strconv_FormatInt.f
  rw [if_pos ⟨by omega, by omega, rfl⟩, Option.bind_some]
  rfl
theorem decDigits_len : ∀ (m u : Nat), u ≤ m → (Lib.decDigits u).length ≤ u + 1
  | 0, u, h => by
    rw [Lib.decDigits]
    rw [dif_pos (by omega)]
    simp
  | m + 1, u, h => by
    rw [Lib.decDigits]
    by_cases c : u < 10
    · rw [dif_pos c]; simp
    · rw [dif_neg c, List.length_append]
      have := decDigits_len m (u / 10) (by omega)
      simp
      omega
theorem ba_append (a b : List UInt8) : (⟨a.toArray⟩ : ByteArray) ++ ⟨b.toArray⟩ = ⟨(a ++ b).toArray⟩ := by
  rw [ByteArray.ext_iff]
  simp [ByteArray.data_append]
theorem one_num (u : Nat) (h : u < 10) : strOfNums [wrap64 (48 + (u : Int)) % 256] = ⟨[UInt8.ofNat (48 + u)].toArray⟩ := by
  rw [wrap_id (by omega) (by omega)]
  have e : (48 + (u : Int)) % 256 = ((48 + u : Nat) : Int) := by omega
  rw [e]
  rfl
theorem digits_nat : ∀ (m u : Nat), u ≤ m → u ≤ 9223372036854775807 → Ev (fun k => spec_l1Digits.f k (u : Int)) ⟨(Lib.decDigits u).toArray⟩
  | m, u, h, hu => by
    rw [Lib.decDigits]
    by_cases c : u < 10
    · rw [dif_pos c]
      refine Ev.step (fun k => spec_l1Digits.f.eq_2 _ k) (Ev.ifn (by omega) (Ev.ifp (by omega) (Ev.leaf (one_num u c))))
    · rw [dif_neg c]
      cases m with
      | zero => omega
      | succ m =>
        have ih := digits_nat m (u / 10) (by omega) (by omega)
        have hl := decDigits_len (u / 10) (u / 10) (Nat.le_refl _)
        have hq : wrap64 (Int.tdiv (u : Int) 10) = ((u / 10 : Nat) : Int) := by
          rw [Int.tdiv_eq_ediv_of_nonneg (by omega), wrap_id (by omega) (by omega)]
          omega
        have hr : Int.tmod (u : Int) 10 = ((u % 10 : Nat) : Int) := by
          rw [Int.tmod_eq_emod_of_nonneg (by omega)]
          omega
        refine Ev.step (fun k => spec_l1Digits.f.eq_2 _ k) (Ev.ifn (by omega) (Ev.ifn (by omega) ?_))
        rw [hq, hr]
        refine Ev.bind ih (Ev.bind0 rfl ?_)
        rw [one_num (u % 10) (by omega)]
        refine Ev.ifp ?_ (Ev.leaf (ba_append _ _))
        have e1 : (⟨(Lib.decDigits (u / 10)).toArray⟩ : ByteArray).size = (Lib.decDigits (u / 10)).length := by simp [ByteArray.size]
        have e2 : (⟨[UInt8.ofNat (48 + u % 10)].toArray⟩ : ByteArray).size = 1 := by simp [ByteArray.size]
        omega
theorem digits_ev {n : Int} (h : numB n = true) : Ev (fun k => spec_l1Digits.f k n) (dig n) := by
  have h2 := numB_iff.mp h
  unfold dig Lib.itoa
  by_cases c : n < 0
  · rw [if_pos c]
    have ih := digits_nat n.natAbs n.natAbs (Nat.le_refl _) (by omega)
    have hl := decDigits_len n.natAbs n.natAbs (Nat.le_refl _)
    refine Ev.step (fun k => spec_l1Digits.f.eq_2 _ k) (Ev.ifp c ?_)
    rw [wrap_id (x := -n) (by omega) (by omega), show -n = ((n.natAbs : Nat) : Int) from by omega]
    refine Ev.bind ih (Ev.ifp ?_ (Ev.leaf (ba_append [45] _)))
    have e1 : (⟨(Lib.decDigits n.natAbs).toArray⟩ : ByteArray).size = (Lib.decDigits n.natAbs).length := by simp [ByteArray.size]
    omega
  · rw [if_neg c]
    have ih := digits_nat n.toNat n.toNat (Nat.le_refl _) (by omega)
    rw [show ((n.toNat : Nat) : Int) = n from by omega] at ih
    exact ih
theorem rdL_at {xs : List S61} {i : Nat} (h : i < xs.length) : rd_T61 xs (i : Int) = xs[i] := by simp [rd_T61, h]
def convD (x : S61) : S69 := ⟨x.f0, x.f1, x.f2, x.f3⟩
theorem szDatumS_ev (xs : List S61) (hx : ∀ y ∈ xs, ok61 y) (hl : xs.length ≤ maxLen) (left : Int) (h0 : 0 ≤ left) (h1 : left ≤ 1048576) :
    ∃ r, Ev (fun k => laws_szDatumS.f k xs left) r ∧ r ≤ left ∧ (r < 0 ∨ xs.length ≤ 1048576) := by
  unfold maxLen at hl
  have hw : wrap64 (left - (xs.length : Int)) = left - (xs.length : Int) := PL.wrap_id (by omega) (by omega)
  by_cases c : left - (xs.length : Int) < 0
  · refine ⟨-1, Ev.congr (f := fun _ => some (-1)) (fun k => ?_) (Ev.now _), by omega, .inl (by omega)⟩
    unfold laws_szDatumS.f
    rw [hw, if_pos c]
  · obtain ⟨r, hr, hr1⟩ := PL.sz_ev xs (fun k left i => laws_szDatumS.l0 k xs left i) (fun left i hi h0 h1 => by
      have hs := (hx xs[i] (List.getElem_mem hi)).2.2.2
      unfold maxLen at hs
      have hw : wrap64 (left - (xs[i].f3.size : Int)) = left - (xs[i].f3.size : Int) := PL.wrap_id (by omega) (by omega)
      refine ⟨left - (xs[i].f3.size : Int), by omega, ?_⟩
      by_cases c : left - (xs[i].f3.size : Int) < 0
      · refine .inl ⟨c, fun k => ?_⟩
        simp only [laws_szDatumS.l0, laws_szDatum.f]
        rw [if_pos (by omega), if_pos (by omega), rdL_at hi, hw, if_pos c]
        rfl
      · refine .inr ⟨by omega, fun k => ?_⟩
        simp only [laws_szDatumS.l0, laws_szDatum.f]
        rw [if_pos (by omega), if_pos (by omega), rdL_at hi, hw, if_neg c, Option.bind_some, if_neg c, PL.wrap_succ hi (by omega)])
      (fun k left => by simp only [laws_szDatumS.l0]; rw [if_neg (by omega)]) xs.length 0 (left - (xs.length : Int)) (by omega) (by omega) (by omega)
    refine ⟨r, Ev.congr (fun k => ?_) hr, by omega, .inr (by omega)⟩
    unfold laws_szDatumS.f
    rw [hw, if_neg c]
    rfl
theorem toDatumS_ev (xs : List S61) (hl : xs.length ≤ 1048576) : Ev (fun k => laws_toDatumS.f k xs) (xs.map convD) := by
  refine Ev.congr (fun k => ?_) (PL.to_ev xs convD z69 (fun k out i => laws_toDatumS.l0 k xs out i) (fun k out i hi ho => by
    simp only [laws_toDatumS.l0, laws_toDatum.f]
    rw [if_pos (by omega), if_pos (by omega), Option.bind_some, if_pos (by omega), rdL_at hi, PL.wrap_succ hi (by omega)]
    rfl) (fun k out ho => by simp only [laws_toDatumS.l0]; rw [if_neg (by omega)]))
  unfold laws_toDatumS.f
  rw [if_pos (by omega), if_pos (by omega)]
  rfl
theorem eqDatumS_ev (xs : List S69) (hl : xs.length ≤ 1048576) : Ev (fun k => laws_eqDatumS.f k xs xs) true := by
  refine Ev.congr (fun k => ?_) (PL.all_ev xs.length (fun k i => laws_eqDatumS.l0 k xs xs i) true (fun k i hi => by
    simp only [laws_eqDatumS.l0, laws_eqDatum.f]
    rw [if_pos (by omega), if_pos (by omega), if_pos (by omega), if_pos trivial, if_pos trivial, if_pos trivial, if_pos trivial, Option.bind_some, if_pos rfl, PL.wrap_succ hi (by omega)]) (fun k => by simp only [laws_eqDatumS.l0]; rw [if_neg (by omega)]) xs.length 0 (by omega))
  unfold laws_eqDatumS.f
  rw [if_pos rfl]
  rfl
def sumU (g : Nat → Nat) : Nat → Nat → Nat
  | 0, _ => 0
  | d + 1, i => g i + sumU g d (i + 1)
theorem sumU_le {g1 g2 g3 : Nat → Nat} {i w : Nat} (h : ∀ j, g1 j + g2 j ≤ g3 j + (if j = i then w else 0)) : ∀ d s, sumU g1 d s + sumU g2 d s ≤ sumU g3 d s + (if s ≤ i ∧ i < s + d then w else 0)
  | 0, s => by simp [sumU]
  | d + 1, s => by
    have ih := sumU_le h d (s + 1)
    have h0 := h s
    simp only [sumU]
    by_cases c : s = i
    · rw [if_pos c] at h0
      rw [if_neg (by omega)] at ih
      rw [if_pos (by omega)]
      omega
    · rw [if_neg c] at h0
      by_cases c2 : s + 1 ≤ i ∧ i < s + 1 + d
      · rw [if_pos c2] at ih
        rw [if_pos (by omega)]
        omega
      · rw [if_neg c2] at ih
        rw [if_neg (by omega)]
        omega
theorem sumU_at {g : Nat → Nat} {i : Nat} : ∀ d s, s ≤ i → i < s + d → g i ≤ sumU g d s
  | 0, s, h0, h1 => by omega
  | d + 1, s, h0, h1 => by
    simp only [sumU]
    by_cases c : s = i
    · subst c; omega
    · have := sumU_at (g := g) (i := i) d (s + 1) (by omega) (by omega)
      omega
theorem sumU_zero {g : Nat → Nat} : ∀ d s, (∀ j, s ≤ j → j < s + d → g j = 0) → sumU g d s = 0
  | 0, s, h => rfl
  | d + 1, s, h => by
    simp only [sumU]
    rw [h s (by omega) (by omega), sumU_zero d (s + 1) (fun j h0 h1 => h j (by omega) (by omega))]
theorem sumU_same {g1 g2 : Nat → Nat} : ∀ {d s : Nat}, (∀ j, s ≤ j → j < s + d → g1 j = g2 j) → sumU g1 d s = sumU g2 d s
  | 0, s, h => rfl
  | d + 1, s, h => by
    simp only [sumU]
    rw [h s (by omega) (by omega), sumU_same (fun j h0 h1 => h j (by omega) (by omega))]
theorem sumU_mono {g1 g2 : Nat → Nat} (h : ∀ j, g1 j ≤ g2 j) : ∀ d s, sumU g1 d s ≤ sumU g2 d s
  | 0, s => Nat.le_refl _
  | d + 1, s => by
    have := sumU_mono h d (s + 1)
    have := h s
    simp only [sumU]
    omega
theorem parts_sum (xs : List S69) (a : Int) (g : Int → Nat) : ∀ d i, ((partsU xs a d i).map g).sum = sumU (fun j => if parD xs (j : Int) = a then g (j : Int) else 0) d i
  | 0, i => rfl
  | d + 1, i => by
    have ih := parts_sum xs a g d (i + 1)
    simp only [partsU, sumU, List.map_append, List.sum_append, ih]
    split <;> simp
theorem parts_mem (xs : List S69) (a : Int) : ∀ d i p, p ∈ partsU xs a d i → ∃ j : Nat, (j : Int) = p ∧ i ≤ j ∧ j < i + d ∧ parD xs p = a
  | 0, i, p, h => by simp [partsU] at h
  | d + 1, i, p, h => by
    simp only [partsU, List.mem_append] at h
    rcases h with h | h
    · split at h
      · rename_i c
        rw [List.mem_singleton] at h
        subst h
        exact ⟨i, rfl, by omega, by omega, c⟩
      · simp at h
    · obtain ⟨j, e, h0, h1, h2⟩ := parts_mem xs a d (i + 1) p h
      exact ⟨j, e, by omega, by omega, h2⟩
def wt (xs : List S69) : Nat → Int → Nat
  | 0, _ => 1
  | d + 1, a => 1 + ((partsM xs a).map (wt xs d)).sum
theorem wt_succ (xs : List S69) (d : Nat) (a : Int) : wt xs (d + 1) a = 1 + sumU (fun j => if parD xs (j : Int) = a then wt xs d (j : Int) else 0) xs.length 0 := by
  simp only [wt, partsM, parts_sum]
theorem wt_mono (xs : List S69) : ∀ d a, wt xs d a ≤ wt xs (d + 1) a
  | 0, a => by rw [wt_succ]; simp only [wt]; omega
  | d + 1, a => by
    rw [wt_succ, wt_succ]
    have := sumU_mono (g1 := fun j => if parD xs (j : Int) = a then wt xs d (j : Int) else 0) (g2 := fun j => if parD xs (j : Int) = a then wt xs (d + 1) (j : Int) else 0) (fun j => by
      have := wt_mono xs d (j : Int)
      show (if _ then _ else _) ≤ (if _ then _ else _)
      split <;> omega) xs.length 0
    omega
theorem wt_rec (xs : List S69) (d : Nat) (a : Int) : wt xs d a ≤ 1 + sumU (fun j => if parD xs (j : Int) = a then wt xs d (j : Int) else 0) xs.length 0 := by
  have h1 := wt_mono xs d a
  rw [wt_succ] at h1
  exact h1
theorem wt_le (xs : List S69) (hA : Ahead xs xs.length) (d : Nat) : ∀ (m i : Nat), i + m = xs.length → sumU (fun j => if i ≤ j ∧ parD xs (j : Int) < (i : Int) then wt xs d (j : Int) else 0) xs.length 0 ≤ m
  | 0, i, h => by
    rw [sumU_zero _ _ (fun j h0 h1 => if_neg (by omega))]
    exact Nat.le_refl _
  | m + 1, i, h => by
    have ih := wt_le xs hA d m (i + 1) (by omega)
    have hr := wt_rec xs d (i : Int)
    have hs := sumU_le (g1 := fun j => if i ≤ j ∧ parD xs (j : Int) < (i : Int) then wt xs d (j : Int) else 0) (g2 := fun j => if parD xs (j : Int) = (i : Int) ∧ j < xs.length then wt xs d (j : Int) else 0) (g3 := fun j => if i + 1 ≤ j ∧ parD xs (j : Int) < ((i + 1 : Nat) : Int) then wt xs d (j : Int) else 0) (i := i) (w := wt xs d (i : Int)) (fun j => by
      show (if _ then _ else _) + (if _ then _ else _) ≤ (if _ then _ else _) + _
      by_cases c : j = i
      · subst c
        rw [if_pos rfl]
        have hi := hA j (by omega)
        rw [if_neg (show ¬ (parD xs (j : Int) = (j : Int) ∧ j < xs.length) by omega)]
        split <;> omega
      · rw [if_neg c]
        by_cases c2 : j < xs.length
        · have hj := hA j c2
          by_cases c3 : parD xs (j : Int) = (i : Int)
          · rw [if_neg (show ¬ (i ≤ j ∧ parD xs (j : Int) < (i : Int)) by omega), if_pos (show parD xs (j : Int) = (i : Int) ∧ j < xs.length from ⟨c3, c2⟩), if_pos (show i + 1 ≤ j ∧ parD xs (j : Int) < ((i + 1 : Nat) : Int) by omega)]
            omega
          · rw [if_neg (show ¬ (parD xs (j : Int) = (i : Int) ∧ j < xs.length) by omega)]
            by_cases c4 : i ≤ j ∧ parD xs (j : Int) < (i : Int)
            · rw [if_pos c4, if_pos (by omega)]
              omega
            · rw [if_neg c4]
              omega
        · rw [if_neg (show ¬ (parD xs (j : Int) = (i : Int) ∧ j < xs.length) by omega)]
          by_cases c4 : i ≤ j ∧ parD xs (j : Int) < (i : Int)
          · rw [if_pos c4, if_pos (by omega)]
            omega
          · rw [if_neg c4]
            omega) xs.length 0
    rw [if_pos (by omega)] at hs
    have he : sumU (fun j => if parD xs (j : Int) = (i : Int) then wt xs d (j : Int) else 0) xs.length 0 = sumU (fun j => if parD xs (j : Int) = (i : Int) ∧ j < xs.length then wt xs d (j : Int) else 0) xs.length 0 := sumU_same (fun j h0 h1 => by
      show (if _ then _ else _) = (if _ then _ else _)
      by_cases c : parD xs (j : Int) = (i : Int)
      · rw [if_pos c, if_pos ⟨c, by omega⟩]
      · rw [if_neg c, if_neg (fun z => c z.1)])
    omega
theorem wt_at (xs : List S69) (hA : Ahead xs xs.length) (d a : Nat) (ha : a < xs.length) : wt xs d (a : Int) ≤ xs.length - a := by
  have h := wt_le xs hA d (xs.length - a) a (by omega)
  have h2 := sumU_at (g := fun j => if a ≤ j ∧ parD xs (j : Int) < (a : Int) then wt xs d (j : Int) else 0) (i := a) xs.length 0 (by omega) (by omega)
  have h3 : (if a ≤ a ∧ parD xs (a : Int) < (a : Int) then wt xs d (a : Int) else 0) = wt xs d (a : Int) := if_pos ⟨Nat.le_refl _, hA a ha⟩
  have h4 : wt xs d (a : Int) ≤ sumU (fun j => if a ≤ j ∧ parD xs (j : Int) < (a : Int) then wt xs d (j : Int) else 0) xs.length 0 := by
    rw [← h3]
    exact h2
  omega
def boolL (N : Int) : List UInt8 := if N = 1 then [35, 116] else [35, 102]
def wr (xs : List S69) : Nat → Int → List UInt8
  | 0, _ => []
  | d + 1, a => if kindD xs a = 1 then Lib.itoa (rd_T69 xs a).f2 else if kindD xs a = 2 then boolL (rd_T69 xs a).f2 else if kindD xs a = 3 then (rd_T69 xs a).f3.data.toList else 40 :: (Lib.join ((partsM xs a).map (wr xs d)) [32] ++ [41])
def GoodD (xs : List S69) : Prop := ∀ j : Nat, j < xs.length → (kindD xs j = 1 → numB (rd_T69 xs j).f2 = true) ∧ (kindD xs j = 2 → 0 ≤ (rd_T69 xs j).f2 ∧ (rd_T69 xs j).f2 ≤ 1) ∧ (kindD xs j = 3 → (rd_T69 xs j).f3.size ≤ 12)
theorem data_good {xs : List S69} (h : dataM xs = 0) : GoodD xs := by
  intro j hj
  have hn := data_none h j hj
  unfold datAt at hn
  rw [dif_pos hj] at hn
  unfold datStep at hn
  have hk : kindM xs[j].f0 1 3 2 xs[j].f2 xs[j].f3 = 0 := by
    repeat' split at hn
    all_goals first | (cases hn; done) | assumption
  unfold kindD
  rw [rdDf_at hj]
  unfold kindM at hk
  refine ⟨fun c => ?_, fun c => ?_, fun c => ?_⟩
  · rw [if_pos c] at hk
    exact numM_0.mp hk
  · rw [if_neg (by omega), if_pos c] at hk
    split at hk
    · rename_i z
      exact inB_iff.mp z
    · omega
  · rw [if_neg (by omega), if_neg (by omega), if_pos c] at hk
    unfold symM at hk
    split at hk
    · rename_i z
      unfold symB at z
      rw [Bool.and_eq_true] at z
      have := inB_iff.mp z.2
      omega
    · omega
theorem dlen : ∀ (k u : Nat), u < 10 ^ (k + 1) → (Lib.decDigits u).length ≤ k + 1
  | 0, u, hu => by rw [Lib.decDigits, dif_pos (by omega)]; simp
  | k + 1, u, hu => by
    rw [Lib.decDigits]
    by_cases c : u < 10
    · rw [dif_pos c]; simp
    · rw [dif_neg c]
      have := dlen k (u / 10) (by rw [Nat.pow_succ] at hu; omega)
      simp
      omega
theorem itoa_len' {n : Int} (h : numB n = true) : (Lib.itoa n).length ≤ 12 := by
  have h2 := numB_iff.mp h
  have h3 := dlen 9 n.natAbs (by simp; omega)
  unfold Lib.itoa
  by_cases c : n < 0
  · rw [if_pos c]; simp; omega
  · rw [if_neg c, show n.toNat = n.natAbs from by omega]; omega
theorem join_len (l : List (List UInt8)) : (Lib.join l [32]).length ≤ (l.map (fun x => x.length + 1)).sum := by
  cases l with
  | nil => simp [Lib.join_nil]
  | cons x r =>
    rw [Lib.join_cons, List.length_append]
    have : ∀ r : List (List UInt8), (Lib.joinTail [32] r).length = (r.map (fun x => x.length + 1)).sum := by
      intro r
      induction r with
      | nil => rfl
      | cons y r ih =>
        simp only [Lib.joinTail, List.map_cons, List.flatten_cons, List.length_append, List.sum_cons] at ih ⊢
        rw [ih]
        simp
        omega
    rw [this]
    simp
theorem wr_len (xs : List S69) (hg : GoodD xs) : ∀ (d a : Nat), a < xs.length → (wr xs d (a : Int)).length + 1 ≤ 14 * wt xs d (a : Int)
  | 0, a, ha => by simp [wr, wt]
  | d + 1, a, ha => by
    obtain ⟨g1, g2, g3⟩ := hg a ha
    have hw : wt xs (d + 1) (a : Int) = 1 + ((partsM xs (a : Int)).map (wt xs d)).sum := rfl
    simp only [wr]
    by_cases c1 : kindD xs (a : Int) = 1
    · rw [if_pos c1]
      have := itoa_len' (g1 c1)
      omega
    rw [if_neg c1]
    by_cases c2 : kindD xs (a : Int) = 2
    · rw [if_pos c2]
      unfold boolL
      split <;> simp <;> omega
    rw [if_neg c2]
    by_cases c3 : kindD xs (a : Int) = 3
    · rw [if_pos c3]
      have := g3 c3
      rw [data_length]
      omega
    rw [if_neg c3]
    have hj := join_len ((partsM xs (a : Int)).map (wr xs d))
    have hs : ∀ l : List Int, (∀ p ∈ l, ∃ j : Nat, (j : Int) = p ∧ j < xs.length) → ((l.map (wr xs d)).map (fun x => x.length + 1)).sum ≤ 14 * (l.map (wt xs d)).sum := by
      intro l
      induction l with
      | nil => intro _; simp
      | cons p l ih =>
        intro hp
        have h1 := ih (fun q hq => hp q (List.mem_cons_of_mem _ hq))
        obtain ⟨j, e, hj⟩ := hp p (by simp)
        have h2 := wr_len xs hg d j hj
        rw [e] at h2
        simp only [List.map_cons, List.sum_cons]
        omega
    have h4 := hs (partsM xs (a : Int)) (fun p hp => by
      obtain ⟨j, e, h0, h1, _⟩ := parts_mem xs (a : Int) xs.length 0 p hp
      exact ⟨j, e, by omega⟩)
    simp only [List.length_cons, List.length_append, List.length_nil]
    omega
theorem ba_size (l : List UInt8) : (⟨l.toArray⟩ : ByteArray).size = l.length := by simp [ByteArray.size]
theorem ba_eta (s : ByteArray) : (⟨s.data.toList.toArray⟩ : ByteArray) = s := by simp
def txt (xs : List S69) (d : Nat) (p : Int) : ByteArray := ⟨(wr xs d p).toArray⟩
theorem txt_size (xs : List S69) (d : Nat) (p : Int) : (txt xs d p).size = (wr xs d p).length := ba_size _
theorem txt_lists (xs : List S69) (d : Nat) (l : List Int) : (l.map (txt xs d)).map (fun x : ByteArray => x.data.toList) = l.map (wr xs d) := by
  simp [txt]
theorem written_loop (xs : List S69) (d : Nat) (ps : List Int) (hp : ∀ p ∈ ps, Ev (fun k => impl_written.f k xs p) (txt xs d p)) (hl : ps.length ≤ 1048576) (hj : (Lib.join (ps.map (wr xs d)) [32]).length ≤ 1000000) : ∀ (m i : Nat) (acc : List ByteArray), i + m = ps.length → acc = (ps.take i).map (txt xs d) → Ev (fun k => impl_written.l0 k xs acc ps (ps.length : Int) (i : Int)) ⟨(40 :: (Lib.join (ps.map (wr xs d)) [32] ++ [41])).toArray⟩
  | 0, i, acc, h, ha => by
    have e : i = ps.length := by omega
    subst e
    rw [List.take_length] at ha
    have hs : acc.map (fun x : ByteArray => x.data.toList) = ps.map (wr xs d) := by rw [ha, txt_lists]
    have hJ : strings_Join.f acc (⟨#[32]⟩ : ByteArray) = some ⟨(Lib.join (ps.map (wr xs d)) [32]).toArray⟩ := by
      unfold strings_Join.f
      have hs' : acc.map (fun x => x.data.toList) = ps.map (wr xs d) := hs
      rw [hs', if_pos ⟨by rw [ha, List.length_map]; omega, by show (Lib.join _ [32]).length ≤ _; omega⟩]
    have e1 : (⟨#[40]⟩ : ByteArray) ++ ⟨(Lib.join (ps.map (wr xs d)) [32]).toArray⟩ = ⟨(40 :: Lib.join (ps.map (wr xs d)) [32]).toArray⟩ := ba_append [40] _
    have e2 : (⟨(40 :: Lib.join (ps.map (wr xs d)) [32]).toArray⟩ : ByteArray) ++ ⟨#[41]⟩ = ⟨(40 :: Lib.join (ps.map (wr xs d)) [32] ++ [41]).toArray⟩ := ba_append _ [41]
    refine Ev.step (fun k => impl_written.l0.eq_2 _ _ _ _ _ k) (Ev.ifn (by omega) (Ev.bind0 hJ (Ev.ifp (by rw [ba_size]; omega) ?_)))
    rw [e1]
    refine Ev.ifp (by rw [ba_size]; simp; omega) (Ev.leaf ?_)
    rw [e2]
    rfl
  | m + 1, i, acc, h, ha => by
    have hi : i < ps.length := by omega
    have hr : rd ps (i : Int) = ps[i] := by simp [rd, hi]
    refine Ev.step (fun k => impl_written.l0.eq_2 _ _ _ _ _ k) (Ev.ifp (by omega) (Ev.ifp (by omega) (Ev.ifp (by omega) ?_)))
    rw [hr]
    refine Ev.bind (hp _ (List.getElem_mem hi)) (Ev.ifp (by rw [ha, List.length_map, List.length_take]; omega) ?_)
    rw [wrap_succ hi (by omega)]
    refine written_loop xs d ps hp hl hj m (i + 1) _ (by omega) ?_
    rw [ha, List.take_succ_eq_append_getElem hi, List.map_append]
    rfl
theorem write_tail (xs : List S69) (d : Nat) (ps : List Int) (hp : ∀ p ∈ ps, Ev (fun k => spec_l3Write.f k xs p) (txt xs d p)) (hl : ps.length ≤ 1048576) : ∀ (m i : Nat) (A : List UInt8), i + m = ps.length → 1 ≤ i → (A ++ Lib.joinTail [32] ((ps.drop i).map (wr xs d))).length ≤ 1000000 → Ev (fun k => spec_l3Write.l0 k xs ⟨A.toArray⟩ ps (i : Int)) ⟨(A ++ Lib.joinTail [32] ((ps.drop i).map (wr xs d)) ++ [41]).toArray⟩
  | 0, i, A, h, h1, hb => by
    have e : ps.drop i = [] := List.drop_eq_nil_of_le (by omega)
    rw [e] at hb ⊢
    have e0 : Lib.joinTail [32] (List.map (wr xs d) []) = [] := rfl
    rw [e0, List.append_nil] at hb ⊢
    exact Ev.step (fun k => spec_l3Write.l0.eq_2 _ _ _ _ k) (Ev.ifn (by omega) (Ev.ifp (by rw [ba_size]; omega) (Ev.leaf (ba_append A [41]))))
  | m + 1, i, A, h, h1, hb => by
    have hi : i < ps.length := by omega
    have hr : rd ps (i : Int) = ps[i] := by simp [rd, hi]
    rw [List.drop_eq_getElem_cons hi] at hb ⊢
    have e0 : Lib.joinTail [32] (List.map (wr xs d) (ps[i] :: ps.drop (i + 1))) = [32] ++ wr xs d ps[i] ++ Lib.joinTail [32] (List.map (wr xs d) (ps.drop (i + 1))) := rfl
    rw [e0] at hb ⊢
    have e1 : (⟨A.toArray⟩ : ByteArray) ++ ⟨#[32]⟩ = ⟨(A ++ [32]).toArray⟩ := ba_append A [32]
    have e2 : (⟨(A ++ [32]).toArray⟩ : ByteArray) ++ txt xs d ps[i] = ⟨(A ++ [32] ++ wr xs d ps[i]).toArray⟩ := ba_append _ _
    have e3 : A ++ ([32] ++ wr xs d ps[i] ++ Lib.joinTail [32] (List.map (wr xs d) (ps.drop (i + 1)))) = A ++ [32] ++ wr xs d ps[i] ++ Lib.joinTail [32] (List.map (wr xs d) (ps.drop (i + 1))) := by simp
    rw [e3] at hb ⊢
    have hb2 := hb
    simp only [List.length_append, List.length_cons, List.length_nil] at hb2
    refine Ev.step (fun k => spec_l3Write.l0.eq_2 _ _ _ _ k) (Ev.ifp (by omega) (Ev.ifp (by omega) (Ev.ifp (by rw [ba_size]; omega) (Ev.ifp (by omega) ?_))))
    rw [hr, e1]
    refine Ev.bind (hp _ (List.getElem_mem hi)) (Ev.ifp (by rw [txt_size, ba_size]; simp; omega) ?_)
    rw [e2, wrap_succ hi (by omega)]
    exact write_tail xs d ps hp hl m (i + 1) _ (by omega) (by omega) hb
theorem write_loop (xs : List S69) (d : Nat) (ps : List Int) (hp : ∀ p ∈ ps, Ev (fun k => spec_l3Write.f k xs p) (txt xs d p)) (hl : ps.length ≤ 1048576) (hj : (Lib.join (ps.map (wr xs d)) [32]).length ≤ 100000) : Ev (fun k => spec_l3Write.l0 k xs (⟨#[40]⟩ : ByteArray) ps 0) ⟨(40 :: (Lib.join (ps.map (wr xs d)) [32] ++ [41])).toArray⟩ := by
  cases ps with
  | nil => exact Ev.step (fun k => spec_l3Write.l0.eq_2 _ _ _ _ k) (Ev.ifn (by simp) (Ev.ifp (by decide) (Ev.leaf (ba_append [40] [41]))))
  | cons p r =>
    rw [List.map_cons, Lib.join_cons] at hj ⊢
    have hr : rd (p :: r) 0 = p := rfl
    have e1 : (⟨#[40]⟩ : ByteArray) ++ txt xs d p = ⟨([40] ++ wr xs d p).toArray⟩ := ba_append [40] _
    have hj2 := hj
    simp only [List.length_append] at hj2
    have ht := write_tail xs d (p :: r) hp hl r.length 1 ([40] ++ wr xs d p) (by rw [List.length_cons]; omega) (by omega) (by
      show ([40] ++ wr xs d p ++ Lib.joinTail [32] (r.map (wr xs d))).length ≤ 1000000
      simp only [List.length_append, List.length_cons, List.length_nil]
      omega)
    refine Ev.step (fun k => spec_l3Write.l0.eq_2 _ _ _ _ k) (Ev.ifp (by rw [List.length_cons]; omega) (Ev.ifn (by omega) (Ev.ifp (by omega) ?_)))
    rw [hr]
    refine Ev.bind (hp p (by simp)) (Ev.ifp (by rw [txt_size]; have : (⟨#[40]⟩ : ByteArray).size = 1 := rfl; omega) ?_)
    rw [e1, show wrap64 (0 + 1) = ((1 : Nat) : Int) from by rw [wrap_id (by omega) (by omega)]; rfl]
    refine Ev.cast ht ?_
    show _ = (⟨_⟩ : ByteArray)
    congr 2
theorem join_bound (xs : List S69) (hA : Ahead xs xs.length) (hg : GoodD xs) (d a : Nat) (ha : a < xs.length) (hn : xs.length ≤ 80) (h3 : ¬ (kindD xs (a : Int) = 1 ∨ kindD xs (a : Int) = 2 ∨ kindD xs (a : Int) = 3)) : (Lib.join ((partsM xs (a : Int)).map (wr xs d)) [32]).length ≤ 1120 := by
  have h1 := wr_len xs hg (d + 1) a ha
  have h2 := wt_at xs hA (d + 1) a ha
  simp only [wr] at h1
  rw [if_neg (fun z => h3 (.inl z)), if_neg (fun z => h3 (.inr (.inl z))), if_neg (fun z => h3 (.inr (.inr z)))] at h1
  simp only [List.length_cons, List.length_append, List.length_nil] at h1
  omega
theorem both_ev (xs : List S69) (hA : Ahead xs xs.length) (hg : GoodD xs) (hn : xs.length ≤ 80) : ∀ (d a : Nat), a < xs.length → xs.length - a ≤ d → Ev (fun k => impl_written.f k xs (a : Int)) (txt xs d (a : Int)) ∧ Ev (fun k => spec_l3Write.f k xs (a : Int)) (txt xs d (a : Int))
  | 0, a, ha, hd => by omega
  | d + 1, a, ha, hd => by
    obtain ⟨g1, g2, g3⟩ := hg a ha
    by_cases c1 : kindD xs (a : Int) = 1
    · have e : txt xs (d + 1) (a : Int) = dig (rd_T69 xs (a : Int)).f2 := by unfold txt; simp only [wr]; rw [if_pos c1]; rfl
      rw [e]
      exact ⟨Ev.step (fun k => impl_written.f.eq_2 _ _ k) (Ev.ifp (by omega) (Ev.ifp (by omega) (Ev.ifp c1 (Ev.bind0 (dec_eq (g1 c1)) (Ev.now _))))),
        Ev.step (fun k => spec_l3Write.f.eq_2 _ _ k) (Ev.ifp (by omega) (Ev.ifp (by omega) (Ev.ifp c1 (Ev.bind (digits_ev (g1 c1)) (Ev.now _)))))⟩
    by_cases c2 : kindD xs (a : Int) = 2
    · have e : txt xs (d + 1) (a : Int) = ⟨(boolL (rd_T69 xs (a : Int)).f2).toArray⟩ := by unfold txt; simp only [wr]; rw [if_neg c1, if_pos c2]
      rw [e]
      have hb := g2 c2
      generalize hN : (rd_T69 xs (a : Int)).f2 = N at hb
      refine ⟨Ev.step (fun k => impl_written.f.eq_2 _ _ k) (Ev.ifp (by omega) (Ev.ifp (by omega) (Ev.ifn c1 (Ev.ifp c2 (Ev.bind0 (a := ⟨(boolL N).toArray⟩) ?_ (Ev.now _)))))),
        Ev.step (fun k => spec_l3Write.f.eq_2 _ _ k) (Ev.ifp (by omega) (Ev.ifp (by omega) (Ev.ifn c1 (Ev.ifp c2 (Ev.bind0 rfl ?_)))))⟩
      · rw [hN]
        unfold impl_boolText.f boolL
        split <;> rfl
      · rw [hN]
        refine Ev.ifp hb.1 (Ev.ifp (by simp; omega) (Ev.leaf ?_))
        by_cases z : N = 1
        · subst z; rfl
        · obtain rfl : N = 0 := by omega
          rfl
    by_cases c3 : kindD xs (a : Int) = 3
    · have e : txt xs (d + 1) (a : Int) = (rd_T69 xs (a : Int)).f3 := by unfold txt; simp only [wr]; rw [if_neg c1, if_neg c2, if_pos c3, ba_eta]
      rw [e]
      exact ⟨Ev.step (fun k => impl_written.f.eq_2 _ _ k) (Ev.ifp (by omega) (Ev.ifp (by omega) (Ev.ifn c1 (Ev.ifn c2 (Ev.ifp c3 (Ev.now _)))))),
        Ev.step (fun k => spec_l3Write.f.eq_2 _ _ k) (Ev.ifp (by omega) (Ev.ifp (by omega) (Ev.ifn c1 (Ev.ifn c2 (Ev.ifp c3 (Ev.now _))))))⟩
    have e : txt xs (d + 1) (a : Int) = ⟨(40 :: (Lib.join ((partsM xs (a : Int)).map (wr xs d)) [32] ++ [41])).toArray⟩ := by unfold txt; simp only [wr]; rw [if_neg c1, if_neg c2, if_neg c3]
    rw [e]
    have hj := join_bound xs hA hg d a ha hn (by rintro (z | z | z) <;> contradiction)
    have hpl : (partsM xs (a : Int)).length ≤ 1048576 := by
      have := partsU_length xs (a : Int) xs.length 0
      unfold partsM
      omega
    have hp : ∀ p ∈ partsM xs (a : Int), Ev (fun k => impl_written.f k xs p) (txt xs d p) ∧ Ev (fun k => spec_l3Write.f k xs p) (txt xs d p) := by
      intro p hp
      obtain ⟨j, rfl, h0, h1, h2⟩ := parts_mem xs (a : Int) xs.length 0 p hp
      have hj := hA j (by omega)
      exact both_ev xs hA hg hn d j (by omega) (by omega)
    exact ⟨Ev.step (fun k => impl_written.f.eq_2 _ _ k) (Ev.ifp (by omega) (Ev.ifp (by omega) (Ev.ifn c1 (Ev.ifn c2 (Ev.ifn c3 (Ev.bind (implParts_ev xs (a : Int) (by omega)) (written_loop xs d _ (fun p z => (hp p z).1) hpl (by omega) (partsM xs (a : Int)).length 0 [] (by omega) rfl))))))),
      Ev.step (fun k => spec_l3Write.f.eq_2 _ _ k) (Ev.ifp (by omega) (Ev.ifp (by omega) (Ev.ifn c1 (Ev.ifn c2 (Ev.ifn c3 (Ev.bind (specParts_ev xs (a : Int) (by omega)) (write_loop xs d _ (fun p z => (hp p z).2) hpl (by omega))))))))⟩
theorem rdCf_at {xs : List S40} {i : Nat} (h : i < xs.length) : rd_T40 xs (i : Int) = xs[i] := by simp [rd_T40, h]
def parC (xs : List S40) (at_ : Int) : Int := (rd_T40 xs at_).f1
def kindC (xs : List S40) (at_ : Int) : Int := (rd_T40 xs at_).f0
def upC (xs : List S40) : Nat → Int → Int → Bool
  | 0, _, _ => false
  | d + 1, at_, to_ => if 0 ≤ at_ then (if at_ = to_ then true else upC xs d (parC xs at_) to_) else false
def aroundC (xs : List S40) : Nat → Int → Int → Int
  | 0, _, _ => -1
  | d + 1, m, at_ => if 0 ≤ at_ then (if kindC xs at_ = 5 then (if m = 0 then at_ else aroundC xs d (wrap64 (m - 1)) (parC xs at_)) else aroundC xs d m (parC xs at_)) else -1
def AheadC (xs : List S40) (n : Nat) : Prop := ∀ j : Nat, j < n → parC xs j < j
theorem ahead_at {xs : List S40} {n : Nat} (hA : AheadC xs n) {at_ : Int} (c : 0 ≤ at_) (h : at_ < n) : parC xs at_ < at_ := by
  have := hA at_.toNat (by omega)
  rwa [Int.toNat_of_nonneg c] at this
theorem isUpC_ev (xs : List S40) (to_ : Int) (n : Nat) (hn : n ≤ xs.length) (hA : AheadC xs n) : ∀ (d : Nat) (at_ : Int), at_ < d → at_ < n → Ev (fun k => impl_isUp__impl_oneCoreFault_1.l0 k to_ at_ xs) (upC xs d at_ to_)
  | 0, at_, h0, h1 => Ev.step (fun k => impl_isUp__impl_oneCoreFault_1.l0.eq_2 _ _ _ k) (Ev.ifn (by omega) (Ev.now _))
  | d + 1, at_, h0, h1 => by
    refine Ev.step (fun k => impl_isUp__impl_oneCoreFault_1.l0.eq_2 _ _ _ k) (Ev.iff (fun c => Ev.iff (fun e => Ev.leaf (by simp only [upC]; rw [if_pos c, if_pos e])) (fun e => ?_)) (fun c => Ev.leaf (by simp only [upC]; rw [if_neg c])))
    have hp := ahead_at hA c h1
    refine Ev.bind0 (a := parC xs at_) (by unfold impl_oneCoreFault_1.f; rw [if_pos c, if_pos (by omega)]; rfl) ?_
    simp only [upC]
    rw [if_pos c, if_neg e]
    exact isUpC_ev xs to_ n hn hA d _ (by omega) (by omega)
theorem l4Line_ev (xs : List S40) (i : Int) (hi0 : 0 ≤ i) (hi1 : i < xs.length) (n : Nat) (hn : n ≤ xs.length) (hA : AheadC xs n) : ∀ (d : Nat) (at_ c : Int), at_ < d → at_ < n → 0 ≤ c → c + at_ < 200 → c ≤ 1000 → Ev (fun k => spec_l4Line.l0 k xs i c at_) (upC xs d at_ (parC xs i))
  | 0, at_, c, h0, h1, h2, h3, h4 => Ev.step (fun k => spec_l4Line.l0.eq_2 _ _ _ _ k) (Ev.ifn (by omega) (Ev.step (fun k => spec_l4Line.j1.eq_2 _ _ _ _ _ k) (Ev.ifn (by simp) (Ev.now _))))
  | d + 1, at_, c, h0, h1, h2, h3, h4 => by
    refine Ev.step (fun k => spec_l4Line.l0.eq_2 _ _ _ _ k) (Ev.iff (fun e => Ev.step (fun k => spec_l4Line.j1.eq_2 _ _ _ _ _ k) (Ev.ifp (decide_eq_true (by omega)) (Ev.ifp hi0 (Ev.ifp hi1 (Ev.iff (fun f => Ev.leaf ?_) (fun f => Ev.ifp e (Ev.ifp (by omega) ?_))))))) (fun e => Ev.step (fun k => spec_l4Line.j1.eq_2 _ _ _ _ _ k) (Ev.ifn (by simp) (Ev.leaf (by simp only [upC]; rw [if_neg e])))))
    · have f' : at_ = parC xs i := f
      simp only [upC]; rw [if_pos e, if_pos f']
    · have f' : ¬ at_ = parC xs i := f
      have hp := ahead_at hA e h1
      have hp' : (rd_T40 xs at_).f1 < at_ := hp
      rw [wrap_id (by omega) (by omega)]
      simp only [upC]; rw [if_pos e, if_neg f']
      exact l4Line_ev xs i hi0 hi1 n hn hA d _ _ (by omega) (by omega) (by omega) (by omega) (by omega)
def outT (xs : List S40) (p : Int) : Int × Int × Int × Int × ByteArray × List S69 × Bool :=
  if 0 ≤ p then ((rd_T40 xs p).f0, (rd_T40 xs p).f1, (rd_T40 xs p).f2, (rd_T40 xs p).f3, (rd_T40 xs p).f4, (rd_T40 xs p).f5, true) else (0, 0, 0, 0, ⟨#[]⟩, [], false)
theorem lambdaOut_ev (xs : List S40) (n : Nat) (hn : n ≤ xs.length) (hA : AheadC xs n) : ∀ (d : Nat) (m at_ : Int), at_ < d → at_ < n → Ev (fun k => impl_lambdaOut.l0 k xs m at_) (outT xs (aroundC xs d m at_))
  | 0, m, at_, h0, h1 => Ev.step (fun k => impl_lambdaOut.l0.eq_2 _ _ _ k) (Ev.ifn (by omega) (Ev.now _))
  | d + 1, m, at_, h0, h1 => by
    refine Ev.step (fun k => impl_lambdaOut.l0.eq_2 _ _ _ k) (Ev.iff (fun e => Ev.ifp e (Ev.ifp (by omega) (Ev.iff (fun f => Ev.iff (fun g => Ev.leaf ?_) (fun g => ?_)) (fun f => ?_)))) (fun e => Ev.leaf ?_))
    · have f' : kindC xs at_ = 5 := f
      have e' : 0 ≤ at_ := e
      simp only [aroundC]; rw [if_pos e', if_pos f', if_pos g]; unfold outT; rw [if_pos e']
    · have f' : kindC xs at_ = 5 := f
      have e' : 0 ≤ at_ := e
      have hp := ahead_at hA e' h1
      simp only [aroundC]; rw [if_pos e', if_pos f', if_neg g]
      exact lambdaOut_ev xs n hn hA d _ _ (show parC xs at_ < d by omega) (show parC xs at_ < n by omega)
    · have f' : ¬ kindC xs at_ = 5 := f
      have e' : 0 ≤ at_ := e
      have hp := ahead_at hA e' h1
      simp only [aroundC]; rw [if_pos e', if_neg f']
      exact lambdaOut_ev xs n hn hA d _ _ (show parC xs at_ < d by omega) (show parC xs at_ < n by omega)
    · have e' : ¬ 0 ≤ at_ := e
      simp only [aroundC]; rw [if_neg e']; rfl
theorem l4Around_ev (xs : List S40) (n : Nat) (hn : n ≤ xs.length) (hA : AheadC xs n) : ∀ (d : Nat) (m at_ : Int), at_ < d → at_ < n → Ev (fun k => spec_l4Around.l0 k xs m at_) (aroundC xs d m at_)
  | 0, m, at_, h0, h1 => Ev.step (fun k => spec_l4Around.l0.eq_2 _ _ _ k) (Ev.ifn (by omega) (Ev.now _))
  | d + 1, m, at_, h0, h1 => by
    refine Ev.step (fun k => spec_l4Around.l0.eq_2 _ _ _ k) (Ev.iff (fun e => Ev.ifp e (Ev.ifp (by omega) (Ev.iff (fun f => Ev.iff (fun g => Ev.leaf ?_) (fun g => ?_)) (fun f => ?_)))) (fun e => Ev.leaf ?_))
    · have f' : kindC xs at_ = 5 := f
      have e' : 0 ≤ at_ := e
      simp only [aroundC]; rw [if_pos e', if_pos f', if_pos g]
    · have f' : kindC xs at_ = 5 := f
      have e' : 0 ≤ at_ := e
      have hp := ahead_at hA e' h1
      simp only [aroundC]; rw [if_pos e', if_pos f', if_neg g]
      exact l4Around_ev xs n hn hA d _ _ (show parC xs at_ < d by omega) (show parC xs at_ < n by omega)
    · have f' : ¬ kindC xs at_ = 5 := f
      have e' : 0 ≤ at_ := e
      have hp := ahead_at hA e' h1
      simp only [aroundC]; rw [if_pos e', if_neg f']
      exact l4Around_ev xs n hn hA d _ _ (show parC xs at_ < d by omega) (show parC xs at_ < n by omega)
    · have e' : ¬ 0 ≤ at_ := e
      simp only [aroundC]; rw [if_neg e']
theorem around_lt (xs : List S40) (n : Nat) (hA : AheadC xs n) : ∀ (d : Nat) (m at_ : Int), at_ < n → aroundC xs d m at_ < n
  | 0, _, _, _ => by simp only [aroundC]; omega
  | d + 1, m, at_, h => by
    simp only [aroundC]
    by_cases e : 0 ≤ at_
    · have hp := ahead_at hA e h
      have h1 := around_lt xs n hA d (wrap64 (m - 1)) (parC xs at_) (by omega)
      have h2 := around_lt xs n hA d m (parC xs at_) (by omega)
      rw [if_pos e]
      split
      · split
        · exact h
        · exact h1
      · exact h2
    · rw [if_neg e]; omega
theorem around_far (xs : List S40) (n : Nat) (hA : AheadC xs n) : ∀ (d : Nat) (m at_ : Int), at_ < n → at_ < m → 0 ≤ m → m ≤ 9223372036854775807 → aroundC xs d m at_ = -1
  | 0, _, _, _, _, _, _ => rfl
  | d + 1, m, at_, h, hm, hm0, hm1 => by
    simp only [aroundC]
    by_cases e : 0 ≤ at_
    · have hp := ahead_at hA e h
      rw [if_pos e, wrap_id (by omega) (by omega), if_neg (show ¬ m = 0 by omega)]
      split
      · exact around_far xs n hA d _ _ (by omega) (by omega) (by omega) (by omega)
      · exact around_far xs n hA d _ _ (by omega) (by omega) (by omega) (by omega)
    · rw [if_neg e]
def namedB (K : Int) : Bool := K == 3 || K == 7 || K == 8
theorem implNamed_eq (K : Int) : impl_named.f K = some (namedB K) := by
  unfold impl_named.f namedB
  by_cases a : K = 3
  · simp [a]
  · by_cases b : K = 7
    · simp [b]
    · simp [a, b]
theorem l4Named_eq (K : Int) : spec_l4Named.f K = some (namedB K) := by
  unfold spec_l4Named.f namedB
  by_cases a : K = 3
  · simp [a]
  · by_cases b : K = 7
    · simp [b]
    · simp [a, b]
def formC (K M P : Int) (s : ByteArray) (l : List S69) : Bool := inB K 1 9 && (decide (M = 0) || decide (K = 2) || decide (K = 5)) && (decide (P = 0) || decide (K = 2)) && (decide (s.toList = []) || namedB K) && (decide ((l.length : Int) = 0) || decide (K = 1))
set_option maxHeartbeats 4000000 in
theorem coreForm_eq (K Q M P : Int) (s : ByteArray) (l : List S69) : impl_coreForm.f K Q M P s l = some (formC K M P s l) := by
  unfold impl_coreForm.f formC
  simp only [in_eq, implNamed_eq, Option.bind_some]
  generalize namedB K = q
  generalize (l.length : Int) = len
  generalize s.toList = sl
  generalize hb : inB K 1 9 = b
  cases b
  · simp
  by_cases k1 : K = 1
  · subst k1
    by_cases m : M = 0 <;> by_cases p : P = 0 <;> by_cases e : sl = [] <;> by_cases n : len = 0 <;> cases q <;> simp [m, p, e, n]
  by_cases k2 : K = 2
  · subst k2
    by_cases m : M = 0 <;> by_cases p : P = 0 <;> by_cases e : sl = [] <;> by_cases n : len = 0 <;> cases q <;> simp [m, p, e, n]
  by_cases k5 : K = 5
  · subst k5
    by_cases m : M = 0 <;> by_cases p : P = 0 <;> by_cases e : sl = [] <;> by_cases n : len = 0 <;> cases q <;> simp [m, p, e, n]
  by_cases m : M = 0 <;> by_cases p : P = 0 <;> by_cases e : sl = [] <;> by_cases n : len = 0 <;> cases q <;> simp [m, p, e, n, k1, k2, k5]
set_option maxHeartbeats 4000000 in
theorem l4Bare_eq (K Q M P : Int) (s : ByteArray) (l : List S69) : spec_l4Bare.f K Q M P s l = some (formC K M P s l) := by
  unfold spec_l4Bare.f formC
  simp only [l1In_eq, l4Named_eq, Option.bind_some]
  generalize namedB K = q
  generalize (l.length : Int) = len
  generalize s.toList = sl
  generalize hb : inB K 1 9 = b
  cases b
  · simp
  by_cases k1 : K = 1
  · subst k1
    by_cases m : M = 0 <;> by_cases p : P = 0 <;> by_cases e : sl = [] <;> by_cases n : len = 0 <;> cases q <;> simp [m, p, e, n]
  by_cases k2 : K = 2
  · subst k2
    by_cases m : M = 0 <;> by_cases p : P = 0 <;> by_cases e : sl = [] <;> by_cases n : len = 0 <;> cases q <;> simp [m, p, e, n]
  by_cases k5 : K = 5
  · subst k5
    by_cases m : M = 0 <;> by_cases p : P = 0 <;> by_cases e : sl = [] <;> by_cases n : len = 0 <;> cases q <;> simp [m, p, e, n]
  by_cases m : M = 0 <;> by_cases p : P = 0 <;> by_cases e : sl = [] <;> by_cases n : len = 0 <;> cases q <;> simp [m, p, e, n, k1, k2, k5]
def kwAt (L : List ByteArray) (s : ByteArray) (i : Nat) : Option Int := if (rdOf ByteArray.empty L (i : Int)).toList = s.toList then some (i : Int) else none
def kwAt2 (L : List ByteArray) (s : ByteArray) (i : Nat) : Option Bool := if (rdOf ByteArray.empty L (i : Int)).toList = s.toList then some true else none
theorem kw_same (L : List ByteArray) (s : ByteArray) : ∀ d i, decide (runU (kwAt L s) (-1) d i ≥ 0) = runU (kwAt2 L s) false d i
  | 0, _ => rfl
  | d + 1, i => by
    by_cases c : (rdOf ByteArray.empty L (i : Int)).toList = s.toList
    · have r1 : runU (kwAt L s) (-1) (d + 1) i = (i : Int) := by simp only [runU]; rw [show kwAt L s i = some (i : Int) from if_pos c]
      have r2 : runU (kwAt2 L s) false (d + 1) i = true := by simp only [runU]; rw [show kwAt2 L s i = some true from if_pos c]
      rw [r1, r2]
      exact decide_eq_true (show (i : Int) ≥ 0 by omega)
    · have r1 : runU (kwAt L s) (-1) (d + 1) i = runU (kwAt L s) (-1) d (i + 1) := by simp only [runU]; rw [show kwAt L s i = none from if_neg c]
      have r2 : runU (kwAt2 L s) false (d + 1) i = runU (kwAt2 L s) false d (i + 1) := by simp only [runU]; rw [show kwAt2 L s i = none from if_neg c]
      rw [r1, r2]
      exact kw_same L s d (i + 1)
theorem index_ev (L : List ByteArray) (s : ByteArray) (hl : L.length ≤ 1048576) : Ev (fun k => slices_Index_string_string.f k L s) (runU (kwAt L s) (-1) L.length 0) := by
  refine Ev.congr (fun k => slices_Index_string_string.f.eq_1 k _ _) ?_
  exact loopO L.length (fun k i => slices_Index_string_string.l0 k L s (L.length : Int) i) (kwAt L s) (-1) (fun i hi r hr => by
    refine Ev.step (fun k => slices_Index_string_string.l0.eq_2 _ _ _ _ k) (Ev.ifp (by omega) (Ev.ifp (by omega) (Ev.ifp (by omega) ?_)))
    rw [wrap_succ hi (by omega)]
    exact Ev.iff (fun c => Ev.stop hr (by unfold kwAt; rw [if_pos c.symm])) (fun c => Ev.go hr (by unfold kwAt; rw [if_neg (fun z => c z.symm)])))
    (Ev.step (fun k => slices_Index_string_string.l0.eq_2 _ _ _ _ k) (Ev.ifn (by omega) (Ev.now _))) L.length 0 (by omega)
theorem specKw_ev (L : List ByteArray) (s : ByteArray) (hl : L.length ≤ 1048576) : Ev (fun k => spec_IsKeyword.l0 k s L 0) (runU (kwAt2 L s) false L.length 0) := by
  exact loopO L.length (fun k i => spec_IsKeyword.l0 k s L i) (kwAt2 L s) false (fun i hi r hr => by
    refine Ev.step (fun k => spec_IsKeyword.l0.eq_2 _ _ _ k) (Ev.ifp (by omega) (Ev.ifp (by omega) ?_))
    rw [wrap_succ hi (by omega)]
    exact Ev.iff (fun c => Ev.stop hr (by unfold kwAt2; rw [if_pos c])) (fun c => Ev.go hr (by unfold kwAt2; rw [if_neg c])))
    (Ev.step (fun k => spec_IsKeyword.l0.eq_2 _ _ _ k) (Ev.ifn (by omega) (Ev.now _))) L.length 0 (by omega)
theorem kw_ev (s : ByteArray) : ∃ b : Bool, Ev (fun k => impl_IsKeyword.f k s) b ∧ Ev (fun k => spec_IsKeyword.f k s) b := by
  refine ⟨_, Ev.congr (fun k => impl_IsKeyword.f.eq_1 k _) (Ev.bind (Ev.congr (fun k => slices_Contains_string_string.f.eq_1 k _ _) (Ev.bind (index_ev _ s (by decide)) (Ev.now _))) (Ev.now _)), ?_⟩
  rw [kw_same]
  exact Ev.congr (fun k => spec_IsKeyword.f.eq_1 k _) (specKw_ev _ s (by decide))
theorem name_ev (s : ByteArray) (hs : s.size ≤ 9223372036854775807) : ∃ b : Bool, Ev (fun k => impl_isName.f k s) b ∧ Ev (fun k => spec_l4Name.f k s) b := by
  obtain ⟨q, h1, h2⟩ := kw_ev s
  by_cases c : symB s = true
  · exact ⟨!q, Ev.congr (fun k => impl_isName.f.eq_1 k _) (Ev.bind0 (SymFault_eq s hs) (Ev.ifp (by unfold symM; rw [if_pos c]) (Ev.bind h1 (Ev.now _)))), Ev.congr (fun k => spec_l4Name.f.eq_1 k _) (Ev.bind (l2Sym_ev s hs) (Ev.ifp c (Ev.bind h2 (Ev.now _))))⟩
  · exact ⟨false, Ev.congr (fun k => impl_isName.f.eq_1 k _) (Ev.bind0 (SymFault_eq s hs) (Ev.ifn (by unfold symM; rw [if_neg c]; decide) (Ev.now _))), Ev.congr (fun k => spec_l4Name.f.eq_1 k _) (Ev.bind (l2Sym_ev s hs) (Ev.ifn c (Ev.now _)))⟩
theorem tail_ev (xs : List S40) (i : Nat) (hi : i < xs.length) (b : Bool) (hk : ¬ xs[i].f0 = 8) (hb : Ev (fun k => spec_l4Place.f k xs (i : Int)) b) : Ev (fun k => spec_l4One.j3 k xs (i : Int)) (if b = true then 0 else 3) := by
  refine Ev.step (fun k => spec_l4One.j3.eq_2 _ _ k) (Ev.ifp (by omega) (Ev.ifp (by omega) ?_))
  rw [rdCf_at hi]
  refine Ev.ifn hk (Ev.step (fun k => spec_l4One.j4.eq_2 _ _ _ k) (Ev.ifn (by simp) (Ev.bind hb ?_)))
  cases b
  · exact Ev.ifn (by simp) (Ev.now _)
  · exact Ev.ifp rfl (Ev.now _)
theorem place_else (xs : List S40) (i : Nat) (hi : i < xs.length) (h5 : ¬ xs[i].f0 = 5) (h2 : ¬ xs[i].f0 = 2) : Ev (fun k => spec_l4Place.f k xs (i : Int)) true := by
  refine Ev.congr (fun k => spec_l4Place.f.eq_1 k _ _) (Ev.ifp (by omega) (Ev.ifp (by omega) ?_))
  rw [rdCf_at hi]
  exact Ev.ifn h5 (Ev.ifn h2 (Ev.now _))
def factC (x : S40) : Prop := (x.f0 = 1 → dataM x.f5 = 0) ∧ (x.f0 = 2 → 0 ≤ x.f2 ∧ x.f2 ≤ 160 ∧ 0 ≤ x.f3 ∧ x.f3 ≤ 9223372036854775807) ∧ (x.f0 = 5 → 0 ≤ x.f2 ∧ x.f2 ≤ 3)
theorem wrap_le (x : Int) : wrap64 x ≤ 9223372036854775807 := by unfold wrap64; omega
theorem core_j2 (xs : List S40) (i : Nat) (hi : i < xs.length) (hl : xs.length ≤ 160) (hA : AheadC xs i) (hpar : xs[i].f1 < i) (hd : okD xs[i].f5) (hM : -9223372036854775808 ≤ xs[i].f2 ∧ xs[i].f2 ≤ 9223372036854775807) :
    ∃ c, Ev (fun k => impl_oneCoreFault.j2 k (i : Int) xs xs[i].f0 xs[i].f1 xs[i].f2 xs[i].f3 xs[i].f4 xs[i].f5) c ∧ Ev (fun k => spec_l4One.j2 k xs (i : Int) false) c ∧ (c = 0 → factC xs[i]) := by
  have hstart : ∀ c, Ev (fun k => if xs[i].f0 = 1 then ((spec_l3Fault.f k xs[i].f5).bind fun t702 => (if t702 = 0 then (spec_l4One.j3 k xs (i : Int)) else (some t702))) else (spec_l4One.j3 k xs (i : Int))) c → Ev (fun k => spec_l4One.j2 k xs (i : Int) false) c := fun c h => by
    refine Ev.step (fun k => spec_l4One.j2.eq_2 _ _ _ k) (Ev.ifn (by simp) (Ev.ifp (by omega) (Ev.ifp (by omega) ?_)))
    rw [rdCf_at hi]
    exact h
  by_cases k1 : xs[i].f0 = 1
  · refine ⟨dataM xs[i].f5, Ev.step (fun k => impl_oneCoreFault.j2.eq_2 _ _ _ _ _ _ _ _ k) (Ev.ifp k1 (Ev.bind (implData_ev _ hd) (Ev.now _))), hstart _ (Ev.ifp k1 (Ev.bind (l3Fault_ev _ hd) (Ev.iff (fun c => ?_) (fun c => Ev.now _)))), fun h => ⟨fun _ => h, fun z => by omega, fun z => by omega⟩⟩
    have := tail_ev xs i hi true (by omega) (place_else xs i hi (by omega) (by omega))
    rw [c]
    exact this
  by_cases k8 : xs[i].f0 = 8
  · have hp := place_else xs i hi (by omega) (by omega)
    by_cases z : (i : Int) > 0
    · refine ⟨1, Ev.step (fun k => impl_oneCoreFault.j2.eq_2 _ _ _ _ _ _ _ _ k) (Ev.ifn k1 (Ev.ifp k8 (Ev.ifp z (Ev.now _)))), hstart _ (Ev.ifn k1 (Ev.step (fun k => spec_l4One.j3.eq_2 _ _ k) (Ev.ifp (by omega) (Ev.ifp (by omega) ?_)))), fun h => by omega⟩
      rw [rdCf_at hi]
      exact Ev.ifp k8 (Ev.step (fun k => spec_l4One.j4.eq_2 _ _ _ k) (Ev.ifp (decide_eq_true z) (Ev.now _)))
    · refine ⟨0, Ev.step (fun k => impl_oneCoreFault.j2.eq_2 _ _ _ _ _ _ _ _ k) (Ev.ifn k1 (Ev.ifp k8 (Ev.ifn z (Ev.now _)))), hstart _ (Ev.ifn k1 (Ev.step (fun k => spec_l4One.j3.eq_2 _ _ k) (Ev.ifp (by omega) (Ev.ifp (by omega) ?_)))), fun _ => ⟨fun z => by omega, fun z => by omega, fun z => by omega⟩⟩
      rw [rdCf_at hi]
      exact Ev.ifp k8 (Ev.step (fun k => spec_l4One.j4.eq_2 _ _ _ k) (Ev.ifn (fun h => z (of_decide_eq_true h)) (Ev.bind hp (Ev.ifp rfl (Ev.now _)))))
  by_cases k5 : xs[i].f0 = 5
  · have hp : Ev (fun k => spec_l4Place.f k xs (i : Int)) (inB xs[i].f2 0 3) := by
      refine Ev.congr (fun k => spec_l4Place.f.eq_1 k _ _) (Ev.ifp (by omega) (Ev.ifp (by omega) ?_))
      rw [rdCf_at hi]
      exact Ev.ifp k5 (Ev.bind0 (l1In_eq _ _ _) (Ev.now _))
    refine ⟨_, Ev.step (fun k => impl_oneCoreFault.j2.eq_2 _ _ _ _ _ _ _ _ k) (Ev.ifn k1 (Ev.ifn k8 (Ev.ifp k5 (Ev.bind0 (in_eq _ _ _) ?_)))), hstart _ (Ev.ifn k1 (tail_ev xs i hi _ k8 hp)), fun h => ⟨fun z => by omega, fun z => by omega, fun _ => by
      have q : inB xs[i].f2 0 3 = true := by
        cases q : inB xs[i].f2 0 3
        · rw [q] at h; simp at h
        · rfl
      exact inB_iff.mp q⟩⟩
    exact Ev.iff (fun c => Ev.leaf (by rw [if_pos c])) (fun c => Ev.leaf (by rw [if_neg c]))
  by_cases k2 : xs[i].f0 = 2
  · have hdd : xs[i].f1 < ((i + 1 : Nat) : Int) := by omega
    have ha : Ev (fun k => spec_l4Around.f k xs (i : Int) xs[i].f2) (aroundC xs (i + 1) xs[i].f2 xs[i].f1) := by
      refine Ev.congr (fun k => spec_l4Around.f.eq_1 k _ _ _) (Ev.ifp (by omega) (Ev.ifp (by omega) ?_))
      rw [rdCf_at hi]
      exact l4Around_ev xs i (by omega) hA (i + 1) _ _ hdd hpar
    have ho : Ev (fun k => impl_lambdaOut.f k xs (i : Int) xs[i].f2) (outT xs (aroundC xs (i + 1) xs[i].f2 xs[i].f1)) := by
      refine Ev.congr (fun k => impl_lambdaOut.f.eq_1 k _ _ _) (Ev.ifp (by omega) (Ev.ifp (by omega) ?_))
      rw [rdCf_at hi]
      exact lambdaOut_ev xs i (by omega) hA (i + 1) _ _ hdd hpar
    have hlt := around_lt xs i hA (i + 1) xs[i].f2 xs[i].f1 hpar
    have hfar : xs[i].f2 > 160 → aroundC xs (i + 1) xs[i].f2 xs[i].f1 = -1 := fun h => around_far xs i hA (i + 1) _ _ hpar (by omega) (by omega) hM.2
    generalize aroundC xs (i + 1) xs[i].f2 xs[i].f1 = p at ha ho hlt hfar
    have hp0 : Ev (fun k => spec_l4Place.f k xs (i : Int)) (if inB xs[i].f2 0 160 = true then (if 0 ≤ p then inB xs[i].f3 0 (wrap64 ((rd_T40 xs p).f2 - 1)) else false) else false) := by
      refine Ev.congr (fun k => spec_l4Place.f.eq_1 k _ _) (Ev.ifp (by omega) (Ev.ifp (by omega) ?_))
      rw [rdCf_at hi]
      refine Ev.ifn k5 (Ev.ifp k2 (Ev.bind0 (l1In_eq _ _ _) (Ev.iff (fun c => ?_) (fun c => Ev.leaf (by rw [if_neg c])))))
      rw [if_pos c]
      refine Ev.bind ha (Ev.iff (fun c1 => ?_) (fun c1 => Ev.leaf (by rw [if_neg c1])))
      have c1' : 0 ≤ p := c1
      rw [if_pos c1']
      exact Ev.ifp (by omega) (Ev.bind0 (l1In_eq _ _ _) (Ev.leaf (by rw [if_pos c1'])))
    refine ⟨_, Ev.step (fun k => impl_oneCoreFault.j2.eq_2 _ _ _ _ _ _ _ _ k) (Ev.ifn k1 (Ev.ifn k8 (Ev.ifn k5 (Ev.ifp k2 (Ev.bind ho ?_))))), hstart _ (Ev.ifn k1 (tail_ev xs i hi _ k8 hp0)), fun h => ⟨fun z => by omega, fun _ => by
      by_cases q0 : inB xs[i].f2 0 160 = true
      · by_cases q1 : 0 ≤ p
        · rw [if_pos q0, if_pos q1] at h
          have q : inB xs[i].f3 0 (wrap64 ((rd_T40 xs p).f2 - 1)) = true := by
            cases q : inB xs[i].f3 0 (wrap64 ((rd_T40 xs p).f2 - 1))
            · rw [q] at h; simp at h
            · rfl
          have h0 := inB_iff.mp q0
          have h1 := inB_iff.mp q
          have h2 := wrap_le ((rd_T40 xs p).f2 - 1)
          omega
        · rw [if_pos q0, if_neg q1] at h; simp at h
      · rw [if_neg q0] at h; simp at h, fun z => by omega⟩⟩
    refine Ev.iff (fun c => Ev.leaf ?_) (fun c => ?_)
    · rw [if_neg (show ¬ inB xs[i].f2 0 160 = true from fun z => by have := inB_iff.mp z; omega)]; rfl
    · by_cases q : 0 ≤ p
      · have q2 : inB xs[i].f2 0 160 = true := inB_t (by omega) (by
          rcases Int.lt_or_le 160 xs[i].f2 with h | h
          · have := hfar h; omega
          · exact h)
        rw [if_pos q2, if_pos q]
        have e : outT xs p = ((rd_T40 xs p).f0, (rd_T40 xs p).f1, (rd_T40 xs p).f2, (rd_T40 xs p).f3, (rd_T40 xs p).f4, (rd_T40 xs p).f5, true) := if_pos q
        rw [e]
        exact Ev.ifp rfl (Ev.bind0 (in_eq _ _ _) (Ev.iff (fun c => Ev.leaf (by rw [if_pos c])) (fun c => Ev.leaf (by rw [if_neg c]))))
      · have e : outT xs p = (0, 0, 0, 0, ⟨#[]⟩, [], false) := if_neg q
        rw [e, if_neg q]
        exact Ev.ifn (by simp) (Ev.leaf (by split <;> rfl))
  · exact ⟨0, Ev.step (fun k => impl_oneCoreFault.j2.eq_2 _ _ _ _ _ _ _ _ k) (Ev.ifn k1 (Ev.ifn k8 (Ev.ifn k5 (Ev.ifn k2 (Ev.now _))))), hstart _ (Ev.ifn k1 (tail_ev xs i hi true k8 (place_else xs i hi k5 k2))), fun _ => ⟨fun z => absurd z k1, fun z => absurd z k2, fun z => absurd z k5⟩⟩
theorem core_j1 (xs : List S40) (i : Nat) (hi : i < xs.length) (hl : xs.length ≤ 160) (hA : AheadC xs i) (hpar : xs[i].f1 < i) (hd : okD xs[i].f5) (hs : xs[i].f4.size ≤ 9223372036854775807) (hM : -9223372036854775808 ≤ xs[i].f2 ∧ xs[i].f2 ≤ 9223372036854775807) (b : Bool) :
    ∃ c, Ev (fun k => impl_oneCoreFault.j1 k (i : Int) b xs xs[i].f0 xs[i].f1 xs[i].f2 xs[i].f3 xs[i].f4 xs[i].f5) c ∧ Ev (fun k => spec_l4One.j1 k xs (i : Int) b) c ∧ (c = 0 → factC xs[i]) := by
  cases b
  · obtain ⟨c, h1, h2, h3⟩ := core_j2 xs i hi hl hA hpar hd hM
    have hstart : ∀ c, Ev (fun k => (spec_l4Named.f xs[i].f0).bind fun t699 => (if t699 = true then ((spec_l4Name.f k xs[i].f4).bind fun t700 => (spec_l4One.j2 k xs (i : Int) (!t700))) else (spec_l4One.j2 k xs (i : Int) false))) c → Ev (fun k => spec_l4One.j1 k xs (i : Int) false) c := fun c h => by
      refine Ev.step (fun k => spec_l4One.j1.eq_2 _ _ _ k) (Ev.ifn (by simp) (Ev.ifp (by omega) (Ev.ifp (by omega) ?_)))
      rw [rdCf_at hi]
      exact h
    by_cases n : namedB xs[i].f0 = true
    · obtain ⟨q, n1, n2⟩ := name_ev xs[i].f4 hs
      cases q
      · exact ⟨5, Ev.step (fun k => impl_oneCoreFault.j1.eq_2 _ _ _ _ _ _ _ _ _ k) (Ev.ifn (by simp) (Ev.bind0 (implNamed_eq _) (Ev.ifp n (Ev.bind n1 (Ev.ifn (by simp) (Ev.now _)))))), hstart _ (Ev.bind0 (l4Named_eq _) (Ev.ifp n (Ev.bind n2 (Ev.step (fun k => spec_l4One.j2.eq_2 _ _ _ k) (Ev.ifp rfl (Ev.now _)))))), fun h => by omega⟩
      · exact ⟨c, Ev.step (fun k => impl_oneCoreFault.j1.eq_2 _ _ _ _ _ _ _ _ _ k) (Ev.ifn (by simp) (Ev.bind0 (implNamed_eq _) (Ev.ifp n (Ev.bind n1 (Ev.ifp rfl h1))))), hstart _ (Ev.bind0 (l4Named_eq _) (Ev.ifp n (Ev.bind n2 h2))), h3⟩
    · exact ⟨c, Ev.step (fun k => impl_oneCoreFault.j1.eq_2 _ _ _ _ _ _ _ _ _ k) (Ev.ifn (by simp) (Ev.bind0 (implNamed_eq _) (Ev.ifn n h1))), hstart _ (Ev.bind0 (l4Named_eq _) (Ev.ifn n h2)), h3⟩
  · exact ⟨1, Ev.step (fun k => impl_oneCoreFault.j1.eq_2 _ _ _ _ _ _ _ _ _ k) (Ev.ifp rfl (Ev.now _)), Ev.step (fun k => spec_l4One.j1.eq_2 _ _ _ k) (Ev.ifp rfl (Ev.now _)), fun h => by omega⟩
def okCf (xs : List S40) : Prop := ∀ x ∈ xs, okD x.f5 ∧ x.f4.size ≤ 9223372036854775807 ∧ (-9223372036854775808 ≤ x.f2 ∧ x.f2 ≤ 9223372036854775807)
theorem core_one (xs : List S40) (hx : okCf xs) (i : Nat) (hi : i < xs.length) (hl : xs.length ≤ 160) (hA : AheadC xs i) :
    ∃ c, Ev (fun k => impl_oneCoreFault.f k xs (i : Int)) c ∧ Ev (fun k => spec_l4One.f k xs (i : Int)) c ∧ (c = 0 → xs[i].f1 < i ∧ factC xs[i]) := by
  have hm := hx xs[i] (List.getElem_mem hi)
  have hI : ∀ c, Ev (fun k => (impl_coreForm.f xs[i].f0 xs[i].f1 xs[i].f2 xs[i].f3 xs[i].f4 xs[i].f5).bind fun t806 => (if t806 = true then (if (i : Int) = 0 then (if xs[i].f1 = (-1) then (if (i : Int) > 0 then ((impl_in.f xs[i].f1 0 (wrap64 ((i : Int) - 1))).bind fun t807 => (impl_oneCoreFault.j0 k (i : Int) (!t807) xs xs[i].f0 xs[i].f1 xs[i].f2 xs[i].f3 xs[i].f4 xs[i].f5)) else (impl_oneCoreFault.j0 k (i : Int) false xs xs[i].f0 xs[i].f1 xs[i].f2 xs[i].f3 xs[i].f4 xs[i].f5)) else (impl_oneCoreFault.j0 k (i : Int) true xs xs[i].f0 xs[i].f1 xs[i].f2 xs[i].f3 xs[i].f4 xs[i].f5)) else (if (i : Int) > 0 then ((impl_in.f xs[i].f1 0 (wrap64 ((i : Int) - 1))).bind fun t808 => (impl_oneCoreFault.j0 k (i : Int) (!t808) xs xs[i].f0 xs[i].f1 xs[i].f2 xs[i].f3 xs[i].f4 xs[i].f5)) else (impl_oneCoreFault.j0 k (i : Int) false xs xs[i].f0 xs[i].f1 xs[i].f2 xs[i].f3 xs[i].f4 xs[i].f5))) else (some 1))) c → Ev (fun k => impl_oneCoreFault.f k xs (i : Int)) c := fun c h => by
    refine Ev.congr (fun k => impl_oneCoreFault.f.eq_1 k _ _) (Ev.ifp (by omega) (Ev.ifp (by omega) ?_))
    rw [rdCf_at hi]
    exact h
  have hS : ∀ c, Ev (fun k => (spec_l4Bare.f xs[i].f0 xs[i].f1 xs[i].f2 xs[i].f3 xs[i].f4 xs[i].f5).bind fun t694 => (if t694 = true then (if (i : Int) = 0 then (if xs[i].f1 = (-1) then (if (i : Int) > 0 then ((spec_l1In.f xs[i].f1 0 (wrap64 ((i : Int) - 1))).bind fun t695 => (spec_l4One.j0 k xs (i : Int) (!t695))) else (spec_l4One.j0 k xs (i : Int) false)) else (spec_l4One.j0 k xs (i : Int) true)) else (if (i : Int) > 0 then ((spec_l1In.f xs[i].f1 0 (wrap64 ((i : Int) - 1))).bind fun t696 => (spec_l4One.j0 k xs (i : Int) (!t696))) else (spec_l4One.j0 k xs (i : Int) false))) else (some 1))) c → Ev (fun k => spec_l4One.f k xs (i : Int)) c := fun c h => by
    refine Ev.congr (fun k => spec_l4One.f.eq_1 k _ _) (Ev.ifp (by omega) (Ev.ifp (by omega) ?_))
    rw [rdCf_at hi]
    exact h
  by_cases f : formC xs[i].f0 xs[i].f2 xs[i].f3 xs[i].f4 xs[i].f5 = true
  · have b3 : Ev (fun k => impl_oneCoreFault.j0 k (i : Int) true xs xs[i].f0 xs[i].f1 xs[i].f2 xs[i].f3 xs[i].f4 xs[i].f5) 3 := Ev.step (fun k => impl_oneCoreFault.j0.eq_2 _ _ _ _ _ _ _ _ _ k) (Ev.ifp rfl (Ev.now _))
    have s3 : Ev (fun k => spec_l4One.j0 k xs (i : Int) true) 3 := Ev.step (fun k => spec_l4One.j0.eq_2 _ _ _ k) (Ev.ifp rfl (Ev.now _))
    by_cases z : (i : Int) = 0
    · by_cases r : xs[i].f1 = -1
      · obtain ⟨c, h1, h2, h3⟩ := core_j1 xs i hi hl hA (by omega) hm.1 hm.2.1 hm.2.2 false
        exact ⟨c, hI _ (Ev.bind0 (coreForm_eq _ _ _ _ _ _) (Ev.ifp f (Ev.ifp z (Ev.ifp r (Ev.ifn (by omega) (Ev.step (fun k => impl_oneCoreFault.j0.eq_2 _ _ _ _ _ _ _ _ _ k) (Ev.ifn (by simp) (Ev.ifn (by omega) h1)))))))), hS _ (Ev.bind0 (l4Bare_eq _ _ _ _ _ _) (Ev.ifp f (Ev.ifp z (Ev.ifp r (Ev.ifn (by omega) (Ev.step (fun k => spec_l4One.j0.eq_2 _ _ _ k) (Ev.ifn (by simp) (Ev.ifn (by omega) h2)))))))), fun z => ⟨by omega, h3 z⟩⟩
      · exact ⟨3, hI _ (Ev.bind0 (coreForm_eq _ _ _ _ _ _) (Ev.ifp f (Ev.ifp z (Ev.ifn r b3)))), hS _ (Ev.bind0 (l4Bare_eq _ _ _ _ _ _) (Ev.ifp f (Ev.ifp z (Ev.ifn r s3)))), fun h => by omega⟩
    · have w : wrap64 ((i : Int) - 1) = (i : Int) - 1 := wrap_id (by omega) (by omega)
      rw [w] at hI hS
      by_cases r : inB xs[i].f1 0 ((i : Int) - 1) = true
      · have hr := inB_iff.mp r
        obtain ⟨c, h1, h2, h3⟩ := core_j1 xs i hi hl hA (by omega) hm.1 hm.2.1 hm.2.2 (!(upC xs (i + 1) ((i : Int) - 1) xs[i].f1))
        have u := isUpC_ev xs xs[i].f1 i (by omega) hA (i + 1) ((i : Int) - 1) (by omega) (by omega)
        have v := l4Line_ev xs (i : Int) (by omega) (by omega) i (by omega) hA (i + 1) ((i : Int) - 1) 0 (by omega) (by omega) (by omega) (by omega) (by omega)
        have e : parC xs (i : Int) = xs[i].f1 := by unfold parC; rw [rdCf_at hi]
        rw [e] at v
        refine ⟨c, hI _ (Ev.bind0 (coreForm_eq _ _ _ _ _ _) (Ev.ifp f (Ev.ifn z (Ev.ifp (by omega) (Ev.bind0 (in_eq _ _ _) ?_))))), hS _ (Ev.bind0 (l4Bare_eq _ _ _ _ _ _) (Ev.ifp f (Ev.ifn z (Ev.ifp (by omega) (Ev.bind0 (l1In_eq _ _ _) ?_))))), fun z => ⟨by omega, h3 z⟩⟩
        · rw [r]
          refine Ev.step (fun k => impl_oneCoreFault.j0.eq_2 _ _ _ _ _ _ _ _ _ k) (Ev.ifn (by simp) (Ev.ifp (by omega) ?_))
          rw [w]
          exact Ev.bind (Ev.congr (fun k => impl_isUp__impl_oneCoreFault_1.f.eq_1 k _ _ _) u) h1
        · rw [r]
          refine Ev.step (fun k => spec_l4One.j0.eq_2 _ _ _ k) (Ev.ifn (by simp) (Ev.ifp (by omega) ?_))
          exact Ev.bind (Ev.congr (fun k => spec_l4Line.f.eq_1 k _ _) (by rw [w]; exact v)) h2
      · have r' : inB xs[i].f1 0 ((i : Int) - 1) = false := by simpa using r
        refine ⟨3, hI _ (Ev.bind0 (coreForm_eq _ _ _ _ _ _) (Ev.ifp f (Ev.ifn z (Ev.ifp (by omega) (Ev.bind0 (in_eq _ _ _) ?_))))), hS _ (Ev.bind0 (l4Bare_eq _ _ _ _ _ _) (Ev.ifp f (Ev.ifn z (Ev.ifp (by omega) (Ev.bind0 (l1In_eq _ _ _) ?_))))), fun h => by omega⟩
        · rw [r']; exact b3
        · rw [r']; exact s3
  · exact ⟨1, hI _ (Ev.bind0 (coreForm_eq _ _ _ _ _ _) (Ev.ifn f (Ev.now _))), hS _ (Ev.bind0 (l4Bare_eq _ _ _ _ _ _) (Ev.ifn f (Ev.now _))), fun h => by omega⟩
def cntC (xs : List S40) (p : Int) : Nat → Nat → Nat
  | 0, _ => 0
  | d + 1, i => (if parC xs (i : Int) = p then 1 else 0) + cntC xs p d (i + 1)
theorem rdL_set (xs : List (List Int)) (j p : Nat) (v : List Int) (hj : j < xs.length) : rd_L9 (xs.set j v) (p : Int) = if p = j then v else rd_L9 xs (p : Int) := by
  by_cases e : p = j
  · subst e; simp [rd_L9, hj]
  · simp [rd_L9, e, List.getElem?_set, Ne.symm (show p ≠ j from e)]
theorem kids_ev (xs : List S40) (hl : xs.length ≤ 160) (hA : AheadC xs xs.length) : ∀ (d i : Nat) (acc : List (List Int)), i + d = xs.length → acc.length = xs.length → (∀ p : Nat, p < acc.length → (rd_L9 acc (p : Int)).length ≤ i) →
    ∃ r, Ev (fun k => impl_kids.l0 k acc xs (xs.length : Int) (i : Int)) r ∧ r.length = xs.length ∧ ∀ p : Nat, p < xs.length → (rd_L9 r (p : Int)).length = (rd_L9 acc (p : Int)).length + cntC xs (p : Int) d i
  | 0, i, acc, h, ha, hb => ⟨acc, Ev.step (fun k => impl_kids.l0.eq_2 _ _ _ _ k) (Ev.ifn (by omega) (Ev.now _)), ha, fun p hp => by simp [cntC]⟩
  | d + 1, i, acc, h, ha, hb => by
    have hi : i < xs.length := by omega
    have hpar : parC xs (i : Int) < i := hA i hi
    by_cases c : parC xs (i : Int) ≥ 0
    · obtain ⟨p0, hp0⟩ : ∃ p0 : Nat, (p0 : Int) = parC xs (i : Int) := ⟨(parC xs (i : Int)).toNat, Int.toNat_of_nonneg c⟩
      have hp1 : p0 < acc.length := by omega
      have hb0 := hb p0 hp1
      obtain ⟨r, h1, h2, h3⟩ := kids_ev xs hl hA d (i + 1) (acc.set p0 (rd_L9 acc (p0 : Int) ++ [(i : Int)])) (by omega) (by rw [List.length_set]; exact ha) (fun p hp => by
        rw [rdL_set acc p0 p _ hp1]
        rw [List.length_set] at hp
        have := hb p hp
        split
        · simp; omega
        · omega)
      refine ⟨r, Ev.step (fun k => impl_kids.l0.eq_2 _ _ _ _ k) (Ev.ifp (by omega) (Ev.ifp (by omega) (Ev.ifp (by omega) (Ev.ifp c (Ev.ifp c (Ev.ifp (show parC xs (i : Int) < (acc.length : Int) by omega) ?_)))))), h2, fun p hp => ?_⟩
      · have e : (rd_T40 xs (i : Int)).f1 = (p0 : Int) := hp0.symm
        rw [e, wrap_succ hi (by omega), Int.toNat_natCast]
        exact Ev.ifp (by omega) h1
      · rw [h3 p hp, rdL_set acc p0 p _ hp1]
        simp only [cntC]
        by_cases e : p = p0
        · subst e
          rw [if_pos rfl, if_pos hp0.symm]
          simp; omega
        · rw [if_neg e, if_neg (by omega)]
          omega
    · obtain ⟨r, h1, h2, h3⟩ := kids_ev xs hl hA d (i + 1) acc (by omega) ha (fun p hp => by have := hb p hp; omega)
      refine ⟨r, Ev.step (fun k => impl_kids.l0.eq_2 _ _ _ _ k) (Ev.ifp (by omega) (Ev.ifp (by omega) (Ev.ifp (by omega) (Ev.ifn c ?_)))), h2, fun p hp => ?_⟩
      · rw [wrap_succ hi (by omega)]; exact h1
      · rw [h3 p hp]
        simp only [cntC]
        rw [if_neg (by omega)]
        omega
theorem l4Kids_ev (xs : List S40) (hl : xs.length ≤ 160) (p : Int) : ∀ (d i : Nat) (acc : List Int), i + d = xs.length → acc.length ≤ i → ∃ r, Ev (fun k => spec_l4Kids.l0 k xs p acc (i : Int)) r ∧ r.length = acc.length + cntC xs p d i
  | 0, i, acc, h, ha => ⟨acc, Ev.step (fun k => spec_l4Kids.l0.eq_2 _ _ _ _ k) (Ev.ifn (by omega) (Ev.now _)), by simp [cntC]⟩
  | d + 1, i, acc, h, ha => by
    have hi : i < xs.length := by omega
    by_cases c : parC xs (i : Int) = p
    · obtain ⟨r, h1, h2⟩ := l4Kids_ev xs hl p d (i + 1) (acc ++ [(i : Int)]) (by omega) (by simp; omega)
      refine ⟨r, Ev.step (fun k => spec_l4Kids.l0.eq_2 _ _ _ _ k) (Ev.ifp (by omega) (Ev.ifp (by omega) (Ev.ifp c (Ev.ifp (by omega) ?_)))), ?_⟩
      · rw [wrap_succ hi (by omega)]; exact h1
      · rw [h2]; simp only [cntC]; rw [if_pos c]; simp; omega
    · obtain ⟨r, h1, h2⟩ := l4Kids_ev xs hl p d (i + 1) acc (by omega) (by omega)
      refine ⟨r, Ev.step (fun k => spec_l4Kids.l0.eq_2 _ _ _ _ k) (Ev.ifp (by omega) (Ev.ifp (by omega) (Ev.ifn c ?_))), ?_⟩
      · rw [wrap_succ hi (by omega)]; exact h1
      · rw [h2]; simp only [cntC]; rw [if_neg c]; omega
theorem many_ev (K n : Int) : ∃ b : Bool, Ev (fun k => impl_hasKids.f k K n) b ∧ Ev (fun k => spec_l4Many.f k K n) b := by
  have hj : ∀ x : Bool, ∃ b : Bool, Ev (fun k => impl_hasKids.j0 k n K x) b ∧ Ev (fun k => spec_l4Many.j0 k n K x) b := fun x => by
    cases x
    · by_cases k6 : K = 6
      · exact ⟨_, Ev.step (fun k => impl_hasKids.j0.eq_2 _ _ _ k) (Ev.ifn (by simp) (Ev.ifp k6 (Ev.now _))), Ev.step (fun k => spec_l4Many.j0.eq_2 _ _ _ k) (Ev.ifn (by simp) (Ev.ifp k6 (Ev.now _)))⟩
      · by_cases k9 : K = 9
        · refine ⟨inB n 1 4, Ev.step (fun k => impl_hasKids.j0.eq_2 _ _ _ k) (Ev.ifn (by simp) (Ev.ifn k6 (Ev.ifp k9 (Ev.bind0 (in_eq _ _ _) (Ev.now _))))), Ev.step (fun k => spec_l4Many.j0.eq_2 _ _ _ k) (Ev.ifn (by simp) (Ev.ifn k6 (Ev.ifp k9 (Ev.iff (fun c => Ev.leaf ?_) (fun c => Ev.leaf ?_)))))⟩
          · unfold inB; rw [decide_eq_true (show (1 : Int) ≤ n from c)]; simp
          · unfold inB; rw [decide_eq_false (show ¬ (1 : Int) ≤ n from c)]; simp
        · exact ⟨_, Ev.step (fun k => impl_hasKids.j0.eq_2 _ _ _ k) (Ev.ifn (by simp) (Ev.ifn k6 (Ev.ifn k9 (Ev.now _)))), Ev.step (fun k => spec_l4Many.j0.eq_2 _ _ _ k) (Ev.ifn (by simp) (Ev.ifn k6 (Ev.ifn k9 (Ev.now _))))⟩
    · exact ⟨_, Ev.step (fun k => impl_hasKids.j0.eq_2 _ _ _ k) (Ev.ifp rfl (Ev.now _)), Ev.step (fun k => spec_l4Many.j0.eq_2 _ _ _ k) (Ev.ifp rfl (Ev.now _))⟩
  by_cases k4 : K = 4
  · exact ⟨_, Ev.congr (fun k => impl_hasKids.f.eq_1 k _ _) (Ev.ifp k4 (Ev.now _)), Ev.congr (fun k => spec_l4Many.f.eq_1 k _ _) (Ev.ifp k4 (Ev.now _))⟩
  by_cases k5 : K = 5
  · obtain ⟨b, h1, h2⟩ := hj (K == 5)
    exact ⟨b, Ev.congr (fun k => impl_hasKids.f.eq_1 k _ _) (Ev.ifn k4 (Ev.ifp k5 h1)), Ev.congr (fun k => spec_l4Many.f.eq_1 k _ _) (Ev.ifn k4 (Ev.ifp k5 h2))⟩
  by_cases k7 : K = 7
  · obtain ⟨b, h1, h2⟩ := hj (K == 7)
    exact ⟨b, Ev.congr (fun k => impl_hasKids.f.eq_1 k _ _) (Ev.ifn k4 (Ev.ifn k5 (Ev.ifp k7 h1))), Ev.congr (fun k => spec_l4Many.f.eq_1 k _ _) (Ev.ifn k4 (Ev.ifn k5 (Ev.ifp k7 h2)))⟩
  · obtain ⟨b, h1, h2⟩ := hj (K == 8)
    exact ⟨b, Ev.congr (fun k => impl_hasKids.f.eq_1 k _ _) (Ev.ifn k4 (Ev.ifn k5 (Ev.ifn k7 h1))), Ev.congr (fun k => spec_l4Many.f.eq_1 k _ _) (Ev.ifn k4 (Ev.ifn k5 (Ev.ifn k7 h2)))⟩
theorem second_ev (xs : List S40) (hl : xs.length ≤ 160) (r : List (List Int)) (hr : r.length = xs.length) (hc : ∀ p : Nat, p < xs.length → (rd_L9 r (p : Int)).length = cntC xs (p : Int) xs.length 0) : ∀ (d i : Nat), i + d = xs.length →
    ∃ v, Ev (fun k => impl_CoreFault.l1 k xs r (r.length : Int) (i : Int)) v ∧ Ev (fun k => spec_l4Fault.l1 k xs (i : Int)) v
  | 0, i, h => ⟨0, Ev.step (fun k => impl_CoreFault.l1.eq_2 _ _ _ _ k) (Ev.ifn (by omega) (Ev.now _)), Ev.step (fun k => spec_l4Fault.l1.eq_2 _ _ k) (Ev.ifn (by omega) (Ev.now _))⟩
  | d + 1, i, h => by
    have hi : i < xs.length := by omega
    obtain ⟨v, v1, v2⟩ := second_ev xs hl r hr hc d (i + 1) (by omega)
    obtain ⟨q, q1, q2⟩ := l4Kids_ev xs hl (i : Int) xs.length 0 [] (by omega) (by simp)
    rw [List.length_nil, Nat.zero_add] at q2
    have hq := hc i hi
    obtain ⟨b, b1, b2⟩ := many_ev (rd_T40 xs (i : Int)).f0 ((rd_L9 r (i : Int)).length : Int)
    have q3 : (q.length : Int) = ((rd_L9 r (i : Int)).length : Int) := by omega
    rw [← q3] at b2
    cases b
    · exact ⟨1, Ev.step (fun k => impl_CoreFault.l1.eq_2 _ _ _ _ k) (Ev.ifp (by omega) (Ev.ifp (by omega) (Ev.ifp (by omega) (Ev.ifp (by omega) (Ev.bind b1 (Ev.ifn (by simp) (Ev.now _))))))), Ev.step (fun k => spec_l4Fault.l1.eq_2 _ _ k) (Ev.ifp (by omega) (Ev.ifp (by omega) (Ev.bind (Ev.congr (fun k => spec_l4Kids.f.eq_1 k _ _) q1) (Ev.bind b2 (Ev.ifn (by simp) (Ev.now _))))))⟩
    · rw [← wrap_succ hi (by omega)] at v1 v2
      exact ⟨v, Ev.step (fun k => impl_CoreFault.l1.eq_2 _ _ _ _ k) (Ev.ifp (by omega) (Ev.ifp (by omega) (Ev.ifp (by omega) (Ev.ifp (by omega) (Ev.bind b1 (Ev.ifp rfl v1)))))), Ev.step (fun k => spec_l4Fault.l1.eq_2 _ _ k) (Ev.ifp (by omega) (Ev.ifp (by omega) (Ev.bind (Ev.congr (fun k => spec_l4Kids.f.eq_1 k _ _) q1) (Ev.bind b2 (Ev.ifp rfl v2)))))⟩
theorem rdL_zero (n p : Nat) : (rd_L9 (List.replicate n ([] : List Int)) (p : Int)).length = 0 := by
  by_cases h : p < n <;> simp [rd_L9, h]
theorem first_ev (xs : List S40) (hx : okCf xs) (hl : xs.length ≤ 160) : ∀ (d i : Nat), i + d = xs.length → AheadC xs i →
    ∃ v, Ev (fun k => impl_CoreFault.l0 k xs (xs.length : Int) (i : Int)) v ∧ Ev (fun k => spec_l4Fault.l0 k xs (i : Int)) v ∧ (v = 0 → AheadC xs xs.length ∧ ∀ (j : Nat) (h : j < xs.length), i ≤ j → factC xs[j])
  | 0, i, h, hA => by
    have e : i = xs.length := by omega
    subst e
    obtain ⟨r, r1, r2, r3⟩ := kids_ev xs hl hA xs.length 0 (List.replicate xs.length []) (by omega) (by simp) (fun p hp => by rw [rdL_zero]; omega)
    obtain ⟨v, v1, v2⟩ := second_ev xs hl r r2 (fun p hp => by rw [r3 p hp, rdL_zero]; omega) xs.length 0 (by omega)
    refine ⟨v, Ev.step (fun k => impl_CoreFault.l0.eq_2 _ _ _ k) (Ev.ifn (by omega) (Ev.bind (Ev.congr (fun k => impl_kids.f.eq_1 k _) (Ev.ifp (by omega) (Ev.ifp (by omega) ?_))) v1)), Ev.step (fun k => spec_l4Fault.l0.eq_2 _ _ k) (Ev.ifn (by omega) v2), fun _ => ⟨hA, fun j h h0 => by omega⟩⟩
    rw [Int.toNat_natCast]
    exact r1
  | d + 1, i, h, hA => by
    have hi : i < xs.length := by omega
    obtain ⟨c, c1, c2, c3⟩ := core_one xs hx i hi hl hA
    by_cases z : c = 0
    · obtain ⟨hp, hf⟩ := c3 z
      obtain ⟨v, v1, v2, v3⟩ := first_ev xs hx hl d (i + 1) (by omega) (fun j hj => by
        by_cases e : j = i
        · subst e; unfold parC; rw [rdCf_at hi]; exact hp
        · exact hA j (by omega))
      rw [← wrap_succ hi (by omega)] at v1 v2
      exact ⟨v, Ev.step (fun k => impl_CoreFault.l0.eq_2 _ _ _ k) (Ev.ifp (by omega) (Ev.bind c1 (Ev.ifp z v1))), Ev.step (fun k => spec_l4Fault.l0.eq_2 _ _ k) (Ev.ifp (by omega) (Ev.bind c2 (Ev.ifp z v2))), fun hv => ⟨(v3 hv).1, fun j h h0 => by
        by_cases e : j = i
        · subst e; exact hf
        · exact (v3 hv).2 j h (by omega)⟩⟩
    · exact ⟨c, Ev.step (fun k => impl_CoreFault.l0.eq_2 _ _ _ k) (Ev.ifp (by omega) (Ev.bind c1 (Ev.ifn z (Ev.now _)))), Ev.step (fun k => spec_l4Fault.l0.eq_2 _ _ k) (Ev.ifp (by omega) (Ev.bind c2 (Ev.ifn z (Ev.now _)))), fun hv => absurd hv z⟩
theorem coreFault_ev (xs : List S40) (hx : okCf xs) (hl : xs.length ≤ 1048576) : ∃ v, Ev (fun k => impl_CoreFault.f k xs) v ∧ Ev (fun k => spec_l4Fault.f k xs) v ∧ (v = 0 → 1 ≤ xs.length ∧ xs.length ≤ 160 ∧ AheadC xs xs.length ∧ ∀ (j : Nat) (h : j < xs.length), factC xs[j]) := by
  by_cases a : (xs.length : Int) < 1
  · refine ⟨2, Ev.congr (fun k => impl_CoreFault.f.eq_1 k _) (Ev.bind0 (in_eq _ _ _) (Ev.ifn (fun z => by have := inB_iff.mp z; omega) (Ev.now _))), Ev.congr (fun k => spec_l4Fault.f.eq_1 k _) (Ev.ifp a (Ev.step (fun k => spec_l4Fault.j0.eq_2 _ _ k) (Ev.ifp rfl (Ev.now _)))), fun h => by omega⟩
  · by_cases b : (xs.length : Int) > 160
    · exact ⟨2, Ev.congr (fun k => impl_CoreFault.f.eq_1 k _) (Ev.bind0 (in_eq _ _ _) (Ev.ifn (fun z => by have := inB_iff.mp z; omega) (Ev.now _))), Ev.congr (fun k => spec_l4Fault.f.eq_1 k _) (Ev.ifn a (Ev.step (fun k => spec_l4Fault.j0.eq_2 _ _ k) (Ev.ifp (decide_eq_true b) (Ev.now _)))), fun h => by omega⟩
    · obtain ⟨v, v1, v2, v3⟩ := first_ev xs hx (by omega) xs.length 0 (by omega) (fun j hj => by omega)
      exact ⟨v, Ev.congr (fun k => impl_CoreFault.f.eq_1 k _) (Ev.bind0 (in_eq _ _ _) (Ev.ifp (inB_t (by omega) (by omega)) v1)), Ev.congr (fun k => spec_l4Fault.f.eq_1 k _) (Ev.ifn a (Ev.step (fun k => spec_l4Fault.j0.eq_2 _ _ k) (Ev.ifn (fun z => b (of_decide_eq_true z)) v2))), fun hv => ⟨by omega, by omega, (v3 hv).1, fun j h => (v3 hv).2 j h (by omega)⟩⟩
def kidsU (xs : List S40) (a : Int) : Nat → Nat → List Int
  | 0, _ => []
  | d + 1, i => (if parC xs (i : Int) = a then [(i : Int)] else []) ++ kidsU xs a d (i + 1)
theorem kidsU_length (xs : List S40) (a : Int) : ∀ d i, (kidsU xs a d i).length ≤ d
  | 0, _ => by simp [kidsU]
  | d + 1, i => by
    have := kidsU_length xs a d (i + 1)
    simp only [kidsU, List.length_append]
    split <;> simp <;> omega
theorem kids_sum (xs : List S40) (a : Int) (g : Int → Nat) : ∀ d i, ((kidsU xs a d i).map g).sum = sumU (fun j => if parC xs (j : Int) = a then g (j : Int) else 0) d i
  | 0, i => rfl
  | d + 1, i => by
    have ih := kids_sum xs a g d (i + 1)
    simp only [kidsU, sumU, List.map_append, List.sum_append, ih]
    split <;> simp
theorem kids_mem (xs : List S40) (a : Int) : ∀ d i p, p ∈ kidsU xs a d i → ∃ j : Nat, (j : Int) = p ∧ i ≤ j ∧ j < i + d ∧ parC xs p = a
  | 0, i, p, h => by simp [kidsU] at h
  | d + 1, i, p, h => by
    simp only [kidsU, List.mem_append] at h
    rcases h with h | h
    · split at h
      · rename_i c
        rw [List.mem_singleton] at h
        subst h
        exact ⟨i, rfl, by omega, by omega, c⟩
      · simp at h
    · obtain ⟨j, e, h0, h1, h2⟩ := kids_mem xs a d (i + 1) p h
      exact ⟨j, e, by omega, by omega, h2⟩
def kidsM (xs : List S40) (a : Int) : List Int := kidsU xs a xs.length 0
def wtC (xs : List S40) : Nat → Int → Nat
  | 0, _ => 1
  | d + 1, a => 1 + ((kidsM xs a).map (wtC xs d)).sum
theorem wtC_succ (xs : List S40) (d : Nat) (a : Int) : wtC xs (d + 1) a = 1 + sumU (fun j => if parC xs (j : Int) = a then wtC xs d (j : Int) else 0) xs.length 0 := by
  simp only [wtC, kidsM, kids_sum]
theorem wtC_mono (xs : List S40) : ∀ d a, wtC xs d a ≤ wtC xs (d + 1) a
  | 0, a => by rw [wtC_succ]; simp only [wtC]; omega
  | d + 1, a => by
    rw [wtC_succ, wtC_succ]
    have := sumU_mono (g1 := fun j => if parC xs (j : Int) = a then wtC xs d (j : Int) else 0) (g2 := fun j => if parC xs (j : Int) = a then wtC xs (d + 1) (j : Int) else 0) (fun j => by
      have := wtC_mono xs d (j : Int)
      show (if _ then _ else _) ≤ (if _ then _ else _)
      split <;> omega) xs.length 0
    omega
theorem wtC_rec (xs : List S40) (d : Nat) (a : Int) : wtC xs d a ≤ 1 + sumU (fun j => if parC xs (j : Int) = a then wtC xs d (j : Int) else 0) xs.length 0 := by
  have h1 := wtC_mono xs d a
  rw [wtC_succ] at h1
  exact h1
theorem wtC_le (xs : List S40) (hA : AheadC xs xs.length) (d : Nat) : ∀ (m i : Nat), i + m = xs.length → sumU (fun j => if i ≤ j ∧ parC xs (j : Int) < (i : Int) then wtC xs d (j : Int) else 0) xs.length 0 ≤ m
  | 0, i, h => by
    rw [sumU_zero _ _ (fun j h0 h1 => if_neg (by omega))]
    exact Nat.le_refl _
  | m + 1, i, h => by
    have ih := wtC_le xs hA d m (i + 1) (by omega)
    have hr := wtC_rec xs d (i : Int)
    have hs := sumU_le (g1 := fun j => if i ≤ j ∧ parC xs (j : Int) < (i : Int) then wtC xs d (j : Int) else 0) (g2 := fun j => if parC xs (j : Int) = (i : Int) ∧ j < xs.length then wtC xs d (j : Int) else 0) (g3 := fun j => if i + 1 ≤ j ∧ parC xs (j : Int) < ((i + 1 : Nat) : Int) then wtC xs d (j : Int) else 0) (i := i) (w := wtC xs d (i : Int)) (fun j => by
      show (if _ then _ else _) + (if _ then _ else _) ≤ (if _ then _ else _) + _
      by_cases c : j = i
      · subst c
        rw [if_pos rfl]
        have hi := hA j (by omega)
        rw [if_neg (show ¬ (parC xs (j : Int) = (j : Int) ∧ j < xs.length) by omega)]
        split <;> omega
      · rw [if_neg c]
        by_cases c2 : j < xs.length
        · have hj := hA j c2
          by_cases c3 : parC xs (j : Int) = (i : Int)
          · rw [if_neg (show ¬ (i ≤ j ∧ parC xs (j : Int) < (i : Int)) by omega), if_pos (show parC xs (j : Int) = (i : Int) ∧ j < xs.length from ⟨c3, c2⟩), if_pos (show i + 1 ≤ j ∧ parC xs (j : Int) < ((i + 1 : Nat) : Int) by omega)]
            omega
          · rw [if_neg (show ¬ (parC xs (j : Int) = (i : Int) ∧ j < xs.length) by omega)]
            by_cases c4 : i ≤ j ∧ parC xs (j : Int) < (i : Int)
            · rw [if_pos c4, if_pos (by omega)]
              omega
            · rw [if_neg c4]
              omega
        · rw [if_neg (show ¬ (parC xs (j : Int) = (i : Int) ∧ j < xs.length) by omega)]
          by_cases c4 : i ≤ j ∧ parC xs (j : Int) < (i : Int)
          · rw [if_pos c4, if_pos (by omega)]
            omega
          · rw [if_neg c4]
            omega) xs.length 0
    rw [if_pos (by omega)] at hs
    have he : sumU (fun j => if parC xs (j : Int) = (i : Int) then wtC xs d (j : Int) else 0) xs.length 0 = sumU (fun j => if parC xs (j : Int) = (i : Int) ∧ j < xs.length then wtC xs d (j : Int) else 0) xs.length 0 := sumU_same (fun j h0 h1 => by
      show (if _ then _ else _) = (if _ then _ else _)
      by_cases c : parC xs (j : Int) = (i : Int)
      · rw [if_pos c, if_pos ⟨c, by omega⟩]
      · rw [if_neg c, if_neg (fun z => c z.1)])
    omega
theorem wtC_at (xs : List S40) (hA : AheadC xs xs.length) (d a : Nat) (ha : a < xs.length) : wtC xs d (a : Int) ≤ xs.length - a := by
  have h := wtC_le xs hA d (xs.length - a) a (by omega)
  have h2 := sumU_at (g := fun j => if a ≤ j ∧ parC xs (j : Int) < (a : Int) then wtC xs d (j : Int) else 0) (i := a) xs.length 0 (by omega) (by omega)
  have h3 : (if a ≤ a ∧ parC xs (a : Int) < (a : Int) then wtC xs d (a : Int) else 0) = wtC xs d (a : Int) := if_pos ⟨Nat.le_refl _, hA a ha⟩
  have h4 : wtC xs d (a : Int) ≤ sumU (fun j => if a ≤ j ∧ parC xs (j : Int) < (a : Int) then wtC xs d (j : Int) else 0) xs.length 0 := by
    rw [← h3]
    exact h2
  omega
theorem kidsT_ev (xs : List S40) (hl : xs.length ≤ 160) (hA : AheadC xs xs.length) : ∀ (d i : Nat) (acc : List (List Int)), i + d = xs.length → acc.length = xs.length → (∀ p : Nat, p < acc.length → (rd_L9 acc (p : Int)).length ≤ i) →
    ∃ r, Ev (fun k => impl_kids.l0 k acc xs (xs.length : Int) (i : Int)) r ∧ r.length = xs.length ∧ ∀ p : Nat, p < xs.length → rd_L9 r (p : Int) = rd_L9 acc (p : Int) ++ kidsU xs (p : Int) d i
  | 0, i, acc, h, ha, hb => ⟨acc, Ev.step (fun k => impl_kids.l0.eq_2 _ _ _ _ k) (Ev.ifn (by omega) (Ev.now _)), ha, fun p hp => by simp [kidsU]⟩
  | d + 1, i, acc, h, ha, hb => by
    have hi : i < xs.length := by omega
    have hpar : parC xs (i : Int) < i := hA i hi
    by_cases c : parC xs (i : Int) ≥ 0
    · obtain ⟨p0, hp0⟩ : ∃ p0 : Nat, (p0 : Int) = parC xs (i : Int) := ⟨(parC xs (i : Int)).toNat, Int.toNat_of_nonneg c⟩
      have hp1 : p0 < acc.length := by omega
      have hb0 := hb p0 hp1
      obtain ⟨r, h1, h2, h3⟩ := kidsT_ev xs hl hA d (i + 1) (acc.set p0 (rd_L9 acc (p0 : Int) ++ [(i : Int)])) (by omega) (by rw [List.length_set]; exact ha) (fun p hp => by
        rw [rdL_set acc p0 p _ hp1]
        rw [List.length_set] at hp
        have := hb p hp
        split
        · simp; omega
        · omega)
      refine ⟨r, Ev.step (fun k => impl_kids.l0.eq_2 _ _ _ _ k) (Ev.ifp (by omega) (Ev.ifp (by omega) (Ev.ifp (by omega) (Ev.ifp c (Ev.ifp c (Ev.ifp (show parC xs (i : Int) < (acc.length : Int) by omega) ?_)))))), h2, fun p hp => ?_⟩
      · have e : (rd_T40 xs (i : Int)).f1 = (p0 : Int) := hp0.symm
        rw [e, wrap_succ hi (by omega), Int.toNat_natCast]
        exact Ev.ifp (by omega) h1
      · rw [h3 p hp, rdL_set acc p0 p _ hp1]
        simp only [kidsU]
        by_cases e : p = p0
        · subst e
          rw [if_pos rfl, if_pos hp0.symm, List.append_assoc]
        · rw [if_neg e, if_neg (by omega), List.nil_append]
    · obtain ⟨r, h1, h2, h3⟩ := kidsT_ev xs hl hA d (i + 1) acc (by omega) ha (fun p hp => by have := hb p hp; omega)
      refine ⟨r, Ev.step (fun k => impl_kids.l0.eq_2 _ _ _ _ k) (Ev.ifp (by omega) (Ev.ifp (by omega) (Ev.ifp (by omega) (Ev.ifn c ?_)))), h2, fun p hp => ?_⟩
      · rw [wrap_succ hi (by omega)]; exact h1
      · rw [h3 p hp]
        simp only [kidsU]
        rw [if_neg (by omega), List.nil_append]
theorem implKids_ev (xs : List S40) (hl : xs.length ≤ 160) (hA : AheadC xs xs.length) : ∃ r, Ev (fun k => impl_kids.f k xs) r ∧ r.length = xs.length ∧ ∀ p : Nat, p < xs.length → rd_L9 r (p : Int) = kidsM xs (p : Int) := by
  have hz : ∀ p : Nat, rd_L9 (List.replicate xs.length ([] : List Int)) (p : Int) = [] := fun p => by
    by_cases h : p < xs.length <;> simp [rd_L9, h]
  obtain ⟨r, r1, r2, r3⟩ := kidsT_ev xs hl hA xs.length 0 (List.replicate xs.length []) (by omega) (by simp) (fun p hp => by rw [hz]; simp)
  refine ⟨r, Ev.congr (fun k => impl_kids.f.eq_1 k _) (Ev.ifp (by omega) (Ev.ifp (by omega) ?_)), r2, fun p hp => ?_⟩
  · rw [Int.toNat_natCast]
    exact r1
  · rw [r3 p hp, hz]
    rfl
theorem l4KidsT_ev (xs : List S40) (hl : xs.length ≤ 160) (p : Int) : ∀ (d i : Nat) (acc : List Int), i + d = xs.length → acc.length ≤ i → Ev (fun k => spec_l4Kids.l0 k xs p acc (i : Int)) (acc ++ kidsU xs p d i)
  | 0, i, acc, h, ha => Ev.step (fun k => spec_l4Kids.l0.eq_2 _ _ _ _ k) (Ev.ifn (by omega) (Ev.leaf (by simp [kidsU])))
  | d + 1, i, acc, h, ha => by
    have hi : i < xs.length := by omega
    by_cases c : parC xs (i : Int) = p
    · refine Ev.step (fun k => spec_l4Kids.l0.eq_2 _ _ _ _ k) (Ev.ifp (by omega) (Ev.ifp (by omega) (Ev.ifp c (Ev.ifp (by omega) ?_))))
      rw [wrap_succ hi (by omega)]
      refine Ev.cast (l4KidsT_ev xs hl p d (i + 1) (acc ++ [(i : Int)]) (by omega) (by simp; omega)) ?_
      simp only [kidsU]; rw [if_pos c, List.append_assoc]
    · refine Ev.step (fun k => spec_l4Kids.l0.eq_2 _ _ _ _ k) (Ev.ifp (by omega) (Ev.ifp (by omega) (Ev.ifn c ?_)))
      rw [wrap_succ hi (by omega)]
      refine Ev.cast (l4KidsT_ev xs hl p d (i + 1) acc (by omega) (by omega)) ?_
      simp only [kidsU]; rw [if_neg c, List.nil_append]
theorem specKids_ev (xs : List S40) (hl : xs.length ≤ 160) (p : Int) : Ev (fun k => spec_l4Kids.f k xs p) (kidsM xs p) :=
  Ev.congr (fun k => spec_l4Kids.f.eq_1 k _ _) (Ev.cast (l4KidsT_ev xs hl p xs.length 0 [] (by omega) (by simp)) (by simp [kidsM]))
theorem decP_eq {n : Int} (h0 : 0 ≤ n) (h1 : n ≤ 9223372036854775807) : impl_dec.f n = some (dig n) := by
  unfold impl_dec.f strconv_FormatInt.f
  rw [if_pos ⟨by omega, by omega, rfl⟩, Option.bind_some]
  rfl
theorem digitsP_ev {n : Int} (h0 : 0 ≤ n) (h1 : n ≤ 9223372036854775807) : Ev (fun k => spec_l1Digits.f k n) (dig n) := by
  unfold dig Lib.itoa
  rw [if_neg (by omega)]
  have ih := digits_nat n.toNat n.toNat (Nat.le_refl _) (by omega)
  rw [show ((n.toNat : Nat) : Int) = n from by omega] at ih
  exact ih
theorem itoaP_len {n : Int} (h0 : 0 ≤ n) (h1 : n ≤ 9223372036854775807) : (Lib.itoa n).length ≤ 20 := by
  unfold Lib.itoa
  rw [if_neg (by omega)]
  exact dlen 19 n.toNat (by
    have : (10 : Nat) ^ (19 + 1) = 100000000000000000000 := by decide
    omega)
def wordsC (x : S40) : List (List UInt8) := if x.f0 = 4 then [[105, 102]] else if x.f0 = 5 then [[102, 110], Lib.itoa x.f2] else if x.f0 = 6 then [[115, 101, 113]] else if x.f0 = 7 then [[115, 101, 116], x.f4.data.toList] else if x.f0 = 8 then [[100, 101, 102], x.f4.data.toList] else [[97, 112, 112]]
def ct (xs : List S40) : Nat → Int → List UInt8
  | 0, _ => []
  | d + 1, a => if (rd_T40 xs a).f0 = 1 then 39 :: wr (rd_T40 xs a).f5 (rd_T40 xs a).f5.length ((0 : Nat) : Int) else if (rd_T40 xs a).f0 = 2 then 37 :: (Lib.itoa (rd_T40 xs a).f2 ++ 46 :: Lib.itoa (rd_T40 xs a).f3) else if (rd_T40 xs a).f0 = 3 then (rd_T40 xs a).f4.data.toList else 40 :: (Lib.join (wordsC (rd_T40 xs a) ++ (kidsM xs a).map (ct xs d)) [32] ++ [41])
def GoodC (xs : List S40) : Prop := ∀ j : Nat, j < xs.length → factC (rd_T40 xs j) ∧ (rd_T40 xs j).f4.size ≤ 1048576
theorem data_len80 {xs : List S69} (h : dataM xs = 0) : 1 ≤ xs.length ∧ xs.length ≤ 80 := by
  unfold dataM at h
  split at h
  · rename_i c
    have := inB_iff.mp c
    omega
  · omega
theorem wr_top {xs : List S69} (h : dataM xs = 0) : (wr xs xs.length ((0 : Nat) : Int)).length ≤ 1120 := by
  have hn := data_len80 h
  have h1 := wr_len xs (data_good h) xs.length 0 (by omega)
  have h2 := wt_at xs (data_ahead h) xs.length 0 (by omega)
  omega
theorem join_app (x : List UInt8) (r K : List (List UInt8)) : Lib.join (x :: r ++ K) [32] = Lib.join (x :: r) [32] ++ Lib.joinTail [32] K := by
  rw [List.cons_append, Lib.join_cons, Lib.join_cons]
  simp [Lib.joinTail]
theorem wordsC_len (x : S40) (hf : factC x) (hs : x.f4.size ≤ 1048576) : ((wordsC x).map (fun x => x.length + 1)).sum ≤ 1048700 ∧ ∃ y r, wordsC x = y :: r := by
  have hd : x.f4.data.toList.length = x.f4.size := data_length _
  unfold wordsC
  by_cases c4 : x.f0 = 4
  · rw [if_pos c4]; exact ⟨by simp, _, _, rfl⟩
  by_cases c5 : x.f0 = 5
  · have h5 := hf.2.2 c5
    have := itoaP_len (n := x.f2) (by omega) (by omega)
    rw [if_neg c4, if_pos c5]; exact ⟨by simp; omega, _, _, rfl⟩
  by_cases c6 : x.f0 = 6
  · rw [if_neg c4, if_neg c5, if_pos c6]; exact ⟨by simp, _, _, rfl⟩
  by_cases c7 : x.f0 = 7
  · rw [if_neg c4, if_neg c5, if_neg c6, if_pos c7]; exact ⟨by simp only [List.map_cons, List.map_nil, List.sum_cons, List.sum_nil, hd]; simp; omega, _, _, rfl⟩
  by_cases c8 : x.f0 = 8
  · rw [if_neg c4, if_neg c5, if_neg c6, if_neg c7, if_pos c8]; exact ⟨by simp only [List.map_cons, List.map_nil, List.sum_cons, List.sum_nil, hd]; simp; omega, _, _, rfl⟩
  · rw [if_neg c4, if_neg c5, if_neg c6, if_neg c7, if_neg c8]; exact ⟨by simp, _, _, rfl⟩
theorem ct_len (xs : List S40) (hg : GoodC xs) : ∀ (d a : Nat), a < xs.length → (ct xs d (a : Int)).length + 1 ≤ 2000000 * wtC xs d (a : Int)
  | 0, a, ha => by simp [ct, wtC]
  | d + 1, a, ha => by
    obtain ⟨hf, hz⟩ := hg a ha
    have hw : wtC xs (d + 1) (a : Int) = 1 + ((kidsM xs (a : Int)).map (wtC xs d)).sum := rfl
    simp only [ct]
    by_cases c1 : (rd_T40 xs (a : Int)).f0 = 1
    · rw [if_pos c1]
      have := wr_top (hf.1 c1)
      rw [List.length_cons]
      omega
    rw [if_neg c1]
    by_cases c2 : (rd_T40 xs (a : Int)).f0 = 2
    · rw [if_pos c2]
      have h2 := hf.2.1 c2
      have := itoaP_len (n := (rd_T40 xs (a : Int)).f2) (by omega) (by omega)
      have := itoaP_len (n := (rd_T40 xs (a : Int)).f3) (by omega) (by omega)
      simp only [List.length_cons, List.length_append]
      omega
    rw [if_neg c2]
    by_cases c3 : (rd_T40 xs (a : Int)).f0 = 3
    · rw [if_pos c3, data_length]
      omega
    rw [if_neg c3]
    have hj := join_len (wordsC (rd_T40 xs (a : Int)) ++ (kidsM xs (a : Int)).map (ct xs d))
    rw [List.map_append, List.sum_append] at hj
    have hwd := (wordsC_len _ hf hz).1
    have hs : ∀ l : List Int, (∀ p ∈ l, ∃ j : Nat, (j : Int) = p ∧ j < xs.length) → ((l.map (ct xs d)).map (fun x => x.length + 1)).sum ≤ 2000000 * (l.map (wtC xs d)).sum := by
      intro l
      induction l with
      | nil => intro _; simp
      | cons p l ih =>
        intro hp
        have h1 := ih (fun q hq => hp q (List.mem_cons_of_mem _ hq))
        obtain ⟨j, e, hj⟩ := hp p (by simp)
        have h2 := ct_len xs hg d j hj
        rw [e] at h2
        simp only [List.map_cons, List.sum_cons]
        omega
    have h4 := hs (kidsM xs (a : Int)) (fun p hp => by
      obtain ⟨j, e, h0, h1, _⟩ := kids_mem xs (a : Int) xs.length 0 p hp
      exact ⟨j, e, by omega⟩)
    simp only [List.length_cons, List.length_append, List.length_nil]
    omega
def ctt (xs : List S40) (d : Nat) (p : Int) : ByteArray := ⟨(ct xs d p).toArray⟩
theorem ctt_size (xs : List S40) (d : Nat) (p : Int) : (ctt xs d p).size = (ct xs d p).length := ba_size _
def ofL (l : List UInt8) : ByteArray := ⟨l.toArray⟩
theorem coreText_loop (xs : List S40) (r : List (List Int)) (d : Nat) (W : List (List UInt8)) (hW : W.length ≤ 2) (ps : List Int) (hp : ∀ p ∈ ps, Ev (fun k => impl_coreText.f k xs r p) (ctt xs d p)) (hl : ps.length ≤ 1000) (hj : (Lib.join (W ++ ps.map (ct xs d)) [32]).length ≤ 1000000000) : ∀ (m i : Nat) (acc : List ByteArray), i + m = ps.length → acc = W.map ofL ++ (ps.take i).map (ctt xs d) → Ev (fun k => impl_coreText.l0 k xs r acc ps (ps.length : Int) (i : Int)) ⟨(40 :: (Lib.join (W ++ ps.map (ct xs d)) [32] ++ [41])).toArray⟩
  | 0, i, acc, h, ha => by
    have e : i = ps.length := by omega
    subst e
    rw [List.take_length] at ha
    have hs : acc.map (fun x => x.data.toList) = W ++ ps.map (ct xs d) := by
      rw [ha, List.map_append]
      congr 1
      · simp [ofL, Function.comp_def]
      · simp [ctt]
    have hJ : strings_Join.f acc (⟨#[32]⟩ : ByteArray) = some ⟨(Lib.join (W ++ ps.map (ct xs d)) [32]).toArray⟩ := by
      unfold strings_Join.f
      rw [hs, if_pos ⟨by rw [ha, List.length_append, List.length_map, List.length_map]; omega, by show (Lib.join _ [32]).length ≤ _; omega⟩]
    have e1 : (⟨#[40]⟩ : ByteArray) ++ ⟨(Lib.join (W ++ ps.map (ct xs d)) [32]).toArray⟩ = ⟨(40 :: Lib.join (W ++ ps.map (ct xs d)) [32]).toArray⟩ := ba_append [40] _
    have e2 : (⟨(40 :: Lib.join (W ++ ps.map (ct xs d)) [32]).toArray⟩ : ByteArray) ++ ⟨#[41]⟩ = ⟨(40 :: Lib.join (W ++ ps.map (ct xs d)) [32] ++ [41]).toArray⟩ := ba_append _ [41]
    refine Ev.step (fun k => impl_coreText.l0.eq_2 _ _ _ _ _ _ k) (Ev.ifn (by omega) (Ev.bind0 hJ (Ev.ifp (by rw [ba_size]; omega) ?_)))
    rw [e1]
    refine Ev.ifp (by rw [ba_size]; simp; omega) (Ev.leaf ?_)
    rw [e2]
    rfl
  | m + 1, i, acc, h, ha => by
    have hi : i < ps.length := by omega
    have hr : rd ps (i : Int) = ps[i] := by simp [rd, hi]
    refine Ev.step (fun k => impl_coreText.l0.eq_2 _ _ _ _ _ _ k) (Ev.ifp (by omega) (Ev.ifp (by omega) (Ev.ifp (by omega) ?_)))
    rw [hr]
    refine Ev.bind (hp _ (List.getElem_mem hi)) (Ev.ifp (by rw [ha, List.length_append, List.length_map, List.length_map, List.length_take]; omega) ?_)
    rw [wrap_succ hi (by omega)]
    refine coreText_loop xs r d W hW ps hp hl hj m (i + 1) _ (by omega) ?_
    rw [ha, List.take_succ_eq_append_getElem hi, List.map_append, List.append_assoc]
    rfl
theorem l4Text_tail (xs : List S40) (d : Nat) (ps : List Int) (hp : ∀ p ∈ ps, Ev (fun k => spec_l4Text.f k xs p) (ctt xs d p)) (hl : ps.length ≤ 1000) : ∀ (m i : Nat) (A : List UInt8), i + m = ps.length → (A ++ Lib.joinTail [32] ((ps.drop i).map (ct xs d))).length ≤ 1000000001 → Ev (fun k => spec_l4Text.l0 k xs ⟨A.toArray⟩ ps (i : Int)) ⟨(A ++ Lib.joinTail [32] ((ps.drop i).map (ct xs d)) ++ [41]).toArray⟩
  | 0, i, A, h, hb => by
    have e : ps.drop i = [] := List.drop_eq_nil_of_le (by omega)
    rw [e] at hb ⊢
    have e0 : Lib.joinTail [32] (List.map (ct xs d) []) = [] := rfl
    rw [e0, List.append_nil] at hb ⊢
    exact Ev.step (fun k => spec_l4Text.l0.eq_2 _ _ _ _ k) (Ev.ifn (by omega) (Ev.ifp (by rw [ba_size]; omega) (Ev.leaf (ba_append A [41]))))
  | m + 1, i, A, h, hb => by
    have hi : i < ps.length := by omega
    have hr : rd ps (i : Int) = ps[i] := by simp [rd, hi]
    rw [List.drop_eq_getElem_cons hi] at hb ⊢
    have e0 : Lib.joinTail [32] (List.map (ct xs d) (ps[i] :: ps.drop (i + 1))) = [32] ++ ct xs d ps[i] ++ Lib.joinTail [32] (List.map (ct xs d) (ps.drop (i + 1))) := rfl
    rw [e0] at hb ⊢
    have e1 : (⟨A.toArray⟩ : ByteArray) ++ ⟨#[32]⟩ = ⟨(A ++ [32]).toArray⟩ := ba_append A [32]
    have e2 : (⟨(A ++ [32]).toArray⟩ : ByteArray) ++ ctt xs d ps[i] = ⟨(A ++ [32] ++ ct xs d ps[i]).toArray⟩ := ba_append _ _
    have e3 : A ++ ([32] ++ ct xs d ps[i] ++ Lib.joinTail [32] (List.map (ct xs d) (ps.drop (i + 1)))) = A ++ [32] ++ ct xs d ps[i] ++ Lib.joinTail [32] (List.map (ct xs d) (ps.drop (i + 1))) := by simp
    rw [e3] at hb ⊢
    have hb2 := hb
    simp only [List.length_append, List.length_cons, List.length_nil] at hb2
    refine Ev.step (fun k => spec_l4Text.l0.eq_2 _ _ _ _ k) (Ev.ifp (by omega) (Ev.ifp (by rw [ba_size]; omega) (Ev.ifp (by omega) ?_)))
    rw [hr, e1]
    refine Ev.bind (hp _ (List.getElem_mem hi)) (Ev.ifp (by rw [ctt_size, ba_size]; simp; omega) ?_)
    rw [e2, wrap_succ hi (by omega)]
    exact l4Text_tail xs d ps hp hl m (i + 1) _ (by omega) hb
theorem bothC_ev (xs : List S40) (r : List (List Int)) (hr : r.length = xs.length) (hrk : ∀ p : Nat, p < xs.length → rd_L9 r (p : Int) = kidsM xs (p : Int)) (hA : AheadC xs xs.length) (hg : GoodC xs) (hl : xs.length ≤ 160) : ∀ (d a : Nat), a < xs.length → xs.length - a ≤ d → Ev (fun k => impl_coreText.f k xs r (a : Int)) (ctt xs d (a : Int)) ∧ Ev (fun k => spec_l4Text.f k xs (a : Int)) (ctt xs d (a : Int))
  | 0, a, ha, hd => by omega
  | d + 1, a, ha, hd => by
    obtain ⟨hf, hz⟩ := hg a ha
    have s37 : (⟨#[37]⟩ : ByteArray).size = 1 := rfl
    have s46 : (⟨#[46]⟩ : ByteArray).size = 1 := rfl
    by_cases c1 : (rd_T40 xs (a : Int)).f0 = 1
    · have e : ctt xs (d + 1) (a : Int) = ⟨(39 :: wr (rd_T40 xs (a : Int)).f5 (rd_T40 xs (a : Int)).f5.length ((0 : Nat) : Int)).toArray⟩ := by unfold ctt; simp only [ct]; rw [if_pos c1]
      rw [e]
      have h0 := hf.1 c1
      have hn := data_len80 h0
      have ht := wr_top h0
      obtain ⟨h1, h2⟩ := both_ev _ (data_ahead h0) (data_good h0) hn.2 (rd_T40 xs (a : Int)).f5.length 0 (by omega) (by omega)
      exact ⟨Ev.step (fun k => impl_coreText.f.eq_2 _ _ _ k) (Ev.ifp (by omega) (Ev.ifp (by omega) (Ev.bind0 rfl (Ev.ifp c1 (Ev.bind h1 (Ev.ifp (by rw [txt_size]; omega) (Ev.leaf (ba_append [39] _)))))))),
        Ev.step (fun k => spec_l4Text.f.eq_2 _ _ k) (Ev.ifp (by omega) (Ev.ifp (by omega) (Ev.ifp c1 (Ev.bind h2 (Ev.ifp (by rw [txt_size]; omega) (Ev.leaf (ba_append [39] _)))))))⟩
    by_cases c2 : (rd_T40 xs (a : Int)).f0 = 2
    · have e : ctt xs (d + 1) (a : Int) = ⟨(37 :: (Lib.itoa (rd_T40 xs (a : Int)).f2 ++ 46 :: Lib.itoa (rd_T40 xs (a : Int)).f3)).toArray⟩ := by unfold ctt; simp only [ct]; rw [if_neg c1, if_pos c2]
      rw [e]
      obtain ⟨b0, b1, b2, b3⟩ := hf.2.1 c2
      have l2 : (dig (rd_T40 xs (a : Int)).f2).size ≤ 20 := by unfold dig; rw [ba_size]; exact itoaP_len b0 (by omega)
      have l3 : (dig (rd_T40 xs (a : Int)).f3).size ≤ 20 := by unfold dig; rw [ba_size]; exact itoaP_len b2 b3
      have q1 : 1 + (dig (rd_T40 xs (a : Int)).f2).size ≤ 9223372036854775807 := by omega
      have q2 : ((⟨#[37]⟩ : ByteArray) ++ dig (rd_T40 xs (a : Int)).f2).size + 1 ≤ 9223372036854775807 := by rw [ByteArray.size_append]; omega
      have q3 : (((⟨#[37]⟩ : ByteArray) ++ dig (rd_T40 xs (a : Int)).f2) ++ (⟨#[46]⟩ : ByteArray)).size + (dig (rd_T40 xs (a : Int)).f3).size ≤ 9223372036854775807 := by rw [ByteArray.size_append, ByteArray.size_append]; omega
      have q4 : (((⟨#[37]⟩ : ByteArray) ++ dig (rd_T40 xs (a : Int)).f2) ++ (⟨#[46]⟩ : ByteArray)) ++ dig (rd_T40 xs (a : Int)).f3 = ⟨(37 :: (Lib.itoa (rd_T40 xs (a : Int)).f2 ++ 46 :: Lib.itoa (rd_T40 xs (a : Int)).f3)).toArray⟩ := by
        show (((⟨[37].toArray⟩ : ByteArray) ++ (⟨(Lib.itoa _).toArray⟩ : ByteArray)) ++ (⟨[46].toArray⟩ : ByteArray)) ++ (⟨(Lib.itoa _).toArray⟩ : ByteArray) = _
        rw [ba_append, ba_append, ba_append]
        simp
      exact ⟨Ev.step (fun k => impl_coreText.f.eq_2 _ _ _ k) (Ev.ifp (by omega) (Ev.ifp (by omega) (Ev.bind0 rfl (Ev.ifn c1 (Ev.ifp c2 (Ev.bind0 (decP_eq b0 (by omega)) (Ev.ifp q1 (Ev.ifp q2 (Ev.bind0 (decP_eq b2 b3) (Ev.ifp q3 (Ev.leaf q4))))))))))),
        Ev.step (fun k => spec_l4Text.f.eq_2 _ _ k) (Ev.ifp (by omega) (Ev.ifp (by omega) (Ev.ifn c1 (Ev.ifp c2 (Ev.bind (digitsP_ev b0 (by omega)) (Ev.ifp q1 (Ev.ifp q2 (Ev.bind (digitsP_ev b2 b3) (Ev.ifp q3 (Ev.leaf q4))))))))))⟩
    by_cases c3 : (rd_T40 xs (a : Int)).f0 = 3
    · have e : ctt xs (d + 1) (a : Int) = (rd_T40 xs (a : Int)).f4 := by unfold ctt; simp only [ct]; rw [if_neg c1, if_neg c2, if_pos c3, ba_eta]
      rw [e]
      exact ⟨Ev.step (fun k => impl_coreText.f.eq_2 _ _ _ k) (Ev.ifp (by omega) (Ev.ifp (by omega) (Ev.bind0 rfl (Ev.ifn c1 (Ev.ifn c2 (Ev.ifp c3 (Ev.now _))))))),
        Ev.step (fun k => spec_l4Text.f.eq_2 _ _ k) (Ev.ifp (by omega) (Ev.ifp (by omega) (Ev.ifn c1 (Ev.ifn c2 (Ev.ifp c3 (Ev.now _))))))⟩
    have e : ctt xs (d + 1) (a : Int) = ⟨(40 :: (Lib.join (wordsC (rd_T40 xs (a : Int)) ++ (kidsM xs (a : Int)).map (ct xs d)) [32] ++ [41])).toArray⟩ := by unfold ctt; simp only [ct]; rw [if_neg c1, if_neg c2, if_neg c3]
    have hj : (Lib.join (wordsC (rd_T40 xs (a : Int)) ++ (kidsM xs (a : Int)).map (ct xs d)) [32]).length ≤ 320000000 := by
      have h1 := ct_len xs hg (d + 1) a ha
      have h2 := wtC_at xs hA (d + 1) a ha
      simp only [ct] at h1
      rw [if_neg c1, if_neg c2, if_neg c3] at h1
      simp only [List.length_cons, List.length_append, List.length_nil] at h1
      omega
    have hpl : (kidsM xs (a : Int)).length ≤ 1000 := by
      have := kidsU_length xs (a : Int) xs.length 0
      unfold kidsM
      omega
    have hp : ∀ p ∈ kidsM xs (a : Int), Ev (fun k => impl_coreText.f k xs r p) (ctt xs d p) ∧ Ev (fun k => spec_l4Text.f k xs p) (ctt xs d p) := by
      intro p hp
      obtain ⟨j, rfl, h0, h1, h2⟩ := kids_mem xs (a : Int) xs.length 0 p hp
      have hj := hA j (by omega)
      exact bothC_ev xs r hr hrk hA hg hl d j (by omega) (by omega)
    have J : ∀ W : List (List UInt8), wordsC (rd_T40 xs (a : Int)) = W → W.length ≤ 2 → ∀ acc : List ByteArray, acc = W.map ofL → Ev (fun k => impl_coreText.j0 k xs r (a : Int) acc) (ctt xs (d + 1) (a : Int)) := by
      intro W hW h2 acc hacc
      rw [e]
      rw [hW] at hj ⊢
      refine Ev.step (fun k => impl_coreText.j0.eq_2 _ _ _ _ k) (Ev.ifp (by omega) (Ev.ifp (by omega) ?_))
      rw [hrk a ha]
      exact coreText_loop xs r d W h2 _ (fun p z => (hp p z).1) hpl (by omega) (kidsM xs (a : Int)).length 0 acc (by omega) (by rw [hacc]; simp)
    have T : ∀ (y : List UInt8) (R : List (List UInt8)), wordsC (rd_T40 xs (a : Int)) = y :: R → ∀ H : ByteArray, H = ⟨(40 :: Lib.join (y :: R) [32]).toArray⟩ → Ev (fun k => spec_l4Text.j0 k xs (a : Int) H) (ctt xs (d + 1) (a : Int)) := by
      intro y R hW H hH
      rw [e, hH]
      rw [hW] at hj ⊢
      rw [join_app] at hj ⊢
      have hj2 := hj
      rw [List.length_append] at hj2
      have ht := l4Text_tail xs d (kidsM xs (a : Int)) (fun p z => (hp p z).2) hpl (kidsM xs (a : Int)).length 0 (40 :: Lib.join (y :: R) [32]) (by omega) (by
        rw [List.drop_zero, List.length_append, List.length_cons]
        omega)
      refine Ev.step (fun k => spec_l4Text.j0.eq_2 _ _ _ k) (Ev.bind (specKids_ev xs hl (a : Int)) (Ev.cast ht ?_))
      rw [List.drop_zero]
      simp
    have n1 : ∀ x : List UInt8, Lib.join [x] [32] = x := fun x => Lib.join_one x [32]
    have n2 : ∀ x y : List UInt8, Lib.join [x, y] [32] = x ++ 32 :: y := fun x y => by rw [Lib.join_cons]; simp [Lib.joinTail]
    have ef : ofL (rd_T40 xs (a : Int)).f4.data.toList = (rd_T40 xs (a : Int)).f4 := ba_eta _
    have app2 : ∀ (A B : List UInt8), (⟨A.toArray⟩ : ByteArray) ++ ofL B = ⟨(A ++ B).toArray⟩ := fun A B => ba_append A B
    by_cases c4 : (rd_T40 xs (a : Int)).f0 = 4
    · have w : wordsC (rd_T40 xs (a : Int)) = [[105, 102]] := by unfold wordsC; rw [if_pos c4]
      exact ⟨Ev.step (fun k => impl_coreText.f.eq_2 _ _ _ k) (Ev.ifp (by omega) (Ev.ifp (by omega) (Ev.bind0 rfl (Ev.ifn c1 (Ev.ifn c2 (Ev.ifn c3 (Ev.ifp c4 (Ev.ifp (by simp) (J _ w (by simp) _ rfl))))))))),
        Ev.step (fun k => spec_l4Text.f.eq_2 _ _ k) (Ev.ifp (by omega) (Ev.ifp (by omega) (Ev.ifn c1 (Ev.ifn c2 (Ev.ifn c3 (Ev.ifp c4 (T _ _ w _ (by rw [n1]))))))))⟩
    by_cases c5 : (rd_T40 xs (a : Int)).f0 = 5
    · have w : wordsC (rd_T40 xs (a : Int)) = [[102, 110], Lib.itoa (rd_T40 xs (a : Int)).f2] := by unfold wordsC; rw [if_neg c4, if_pos c5]
      have b := hf.2.2 c5
      have l2 : (dig (rd_T40 xs (a : Int)).f2).size ≤ 20 := by unfold dig; rw [ba_size]; exact itoaP_len b.1 (by omega)
      exact ⟨Ev.step (fun k => impl_coreText.f.eq_2 _ _ _ k) (Ev.ifp (by omega) (Ev.ifp (by omega) (Ev.bind0 rfl (Ev.ifn c1 (Ev.ifn c2 (Ev.ifn c3 (Ev.ifn c4 (Ev.ifp c5 (Ev.bind0 (decP_eq b.1 (by omega)) (Ev.bind0 rfl (Ev.ifp (by simp) (J _ w (by simp) _ rfl)))))))))))),
        Ev.step (fun k => spec_l4Text.f.eq_2 _ _ k) (Ev.ifp (by omega) (Ev.ifp (by omega) (Ev.ifn c1 (Ev.ifn c2 (Ev.ifn c3 (Ev.ifn c4 (Ev.ifp c5 (Ev.bind (digitsP_ev b.1 (by omega)) (Ev.ifp (by omega) (T _ _ w _ (by rw [n2]; exact app2 [40, 102, 110, 32] _)))))))))))⟩
    by_cases c6 : (rd_T40 xs (a : Int)).f0 = 6
    · have w : wordsC (rd_T40 xs (a : Int)) = [[115, 101, 113]] := by unfold wordsC; rw [if_neg c4, if_neg c5, if_pos c6]
      exact ⟨Ev.step (fun k => impl_coreText.f.eq_2 _ _ _ k) (Ev.ifp (by omega) (Ev.ifp (by omega) (Ev.bind0 rfl (Ev.ifn c1 (Ev.ifn c2 (Ev.ifn c3 (Ev.ifn c4 (Ev.ifn c5 (Ev.ifp c6 (Ev.ifp (by simp) (J _ w (by simp) _ rfl))))))))))),
        Ev.step (fun k => spec_l4Text.f.eq_2 _ _ k) (Ev.ifp (by omega) (Ev.ifp (by omega) (Ev.ifn c1 (Ev.ifn c2 (Ev.ifn c3 (Ev.ifn c4 (Ev.ifn c5 (Ev.ifp c6 (T _ _ w _ (by rw [n1]))))))))))⟩
    by_cases c7 : (rd_T40 xs (a : Int)).f0 = 7
    · have w : wordsC (rd_T40 xs (a : Int)) = [[115, 101, 116], (rd_T40 xs (a : Int)).f4.data.toList] := by unfold wordsC; rw [if_neg c4, if_neg c5, if_neg c6, if_pos c7]
      exact ⟨Ev.step (fun k => impl_coreText.f.eq_2 _ _ _ k) (Ev.ifp (by omega) (Ev.ifp (by omega) (Ev.bind0 rfl (Ev.ifn c1 (Ev.ifn c2 (Ev.ifn c3 (Ev.ifn c4 (Ev.ifn c5 (Ev.ifn c6 (Ev.ifp c7 (Ev.bind0 rfl (Ev.ifp (by simp) (J _ w (by simp) _ (by rw [List.map_cons, List.map_cons, ef]; rfl)))))))))))))),
        Ev.step (fun k => spec_l4Text.f.eq_2 _ _ k) (Ev.ifp (by omega) (Ev.ifp (by omega) (Ev.ifn c1 (Ev.ifn c2 (Ev.ifn c3 (Ev.ifn c4 (Ev.ifn c5 (Ev.ifn c6 (Ev.ifp c7 (Ev.ifp (by omega) (T _ _ w _ (by rw [n2, ← ef]; exact app2 [40, 115, 101, 116, 32] _))))))))))))⟩
    by_cases c8 : (rd_T40 xs (a : Int)).f0 = 8
    · have w : wordsC (rd_T40 xs (a : Int)) = [[100, 101, 102], (rd_T40 xs (a : Int)).f4.data.toList] := by unfold wordsC; rw [if_neg c4, if_neg c5, if_neg c6, if_neg c7, if_pos c8]
      exact ⟨Ev.step (fun k => impl_coreText.f.eq_2 _ _ _ k) (Ev.ifp (by omega) (Ev.ifp (by omega) (Ev.bind0 rfl (Ev.ifn c1 (Ev.ifn c2 (Ev.ifn c3 (Ev.ifn c4 (Ev.ifn c5 (Ev.ifn c6 (Ev.ifn c7 (Ev.ifp c8 (Ev.bind0 rfl (Ev.ifp (by simp) (J _ w (by simp) _ (by rw [List.map_cons, List.map_cons, ef]; rfl))))))))))))))),
        Ev.step (fun k => spec_l4Text.f.eq_2 _ _ k) (Ev.ifp (by omega) (Ev.ifp (by omega) (Ev.ifn c1 (Ev.ifn c2 (Ev.ifn c3 (Ev.ifn c4 (Ev.ifn c5 (Ev.ifn c6 (Ev.ifn c7 (Ev.ifp c8 (Ev.ifp (by omega) (T _ _ w _ (by rw [n2, ← ef]; exact app2 [40, 100, 101, 102, 32] _)))))))))))))⟩
    · have w : wordsC (rd_T40 xs (a : Int)) = [[97, 112, 112]] := by unfold wordsC; rw [if_neg c4, if_neg c5, if_neg c6, if_neg c7, if_neg c8]
      exact ⟨Ev.step (fun k => impl_coreText.f.eq_2 _ _ _ k) (Ev.ifp (by omega) (Ev.ifp (by omega) (Ev.bind0 rfl (Ev.ifn c1 (Ev.ifn c2 (Ev.ifn c3 (Ev.ifn c4 (Ev.ifn c5 (Ev.ifn c6 (Ev.ifn c7 (Ev.ifn c8 (Ev.ifp (by simp) (J _ w (by simp) _ rfl))))))))))))),
        Ev.step (fun k => spec_l4Text.f.eq_2 _ _ k) (Ev.ifp (by omega) (Ev.ifp (by omega) (Ev.ifn c1 (Ev.ifn c2 (Ev.ifn c3 (Ev.ifn c4 (Ev.ifn c5 (Ev.ifn c6 (Ev.ifn c7 (Ev.ifn c8 (T _ _ w _ (by rw [n1]))))))))))))⟩
theorem rdLC_at {xs : List S35} {i : Nat} (h : i < xs.length) : rd_T35 xs (i : Int) = xs[i] := by simp [rd_T35, h]
theorem rdC_at {xs : List S40} {i : Nat} (h : i < xs.length) : rd_T40 xs (i : Int) = xs[i] := by simp [rd_T40, h]
def convC (x : S35) : S40 := ⟨x.f0, x.f1, x.f2, x.f3, x.f4, x.f5.map convD⟩
theorem szCore_ev (x : S35) (left : Int) (hx : ok35 x) (h0 : 0 ≤ left) (h1 : left ≤ 1048576) : ∃ r, Ev (fun k => laws_szCore.f k x.f0 x.f1 x.f2 x.f3 x.f4 x.f5 left) r ∧ r ≤ left ∧ (r < 0 → r = -1) ∧ (r < 0 ∨ (x.f5.length ≤ 1048576 ∧ x.f4.size ≤ 1048576)) := by
  have hn := hx.2.2.2.2.1
  have hd := hx.2.2.2.2.2
  unfold maxLen at hn
  have hw : wrap64 (left - (x.f4.size : Int)) = left - (x.f4.size : Int) := wrap_id (by omega) (by omega)
  by_cases c : left - (x.f4.size : Int) < 0
  · exact ⟨-1, Ev.congr (fun k => laws_szCore.f.eq_1 k _ _ _ _ _ _ _) (by rw [hw]; exact Ev.ifp c (Ev.now _)), by omega, fun _ => rfl, .inl (by omega)⟩
  · obtain ⟨q, hq, hq1, hq2⟩ := szDatumS_ev x.f5 hd.2 hd.1 (left - (x.f4.size : Int)) (by omega) (by omega)
    by_cases d : q < 0
    · exact ⟨-1, Ev.congr (fun k => laws_szCore.f.eq_1 k _ _ _ _ _ _ _) (by rw [hw]; exact Ev.ifn c (Ev.bind hq (Ev.ifp d (Ev.now _)))), by omega, fun _ => rfl, .inl (by omega)⟩
    · exact ⟨q, Ev.congr (fun k => laws_szCore.f.eq_1 k _ _ _ _ _ _ _) (by rw [hw]; exact Ev.ifn c (Ev.bind hq (Ev.ifn d (Ev.now _)))), by omega, fun h => absurd h d, hq2.imp id (fun z => ⟨z, by omega⟩)⟩
theorem szCoreS_ev (xs : List S35) (hx : ∀ y ∈ xs, ok35 y) (hl : xs.length ≤ maxLen) (left : Int) (h0 : 0 ≤ left) (h1 : left ≤ 1048576) :
    ∃ r, Ev (fun k => laws_szCoreS.f k xs left) r ∧ r ≤ left ∧ (r < 0 ∨ (xs.length ≤ 1048576 ∧ ∀ x ∈ xs, x.f5.length ≤ 1048576 ∧ x.f4.size ≤ 1048576)) := by
  unfold maxLen at hl
  have hw : wrap64 (left - (xs.length : Int)) = left - (xs.length : Int) := wrap_id (by omega) (by omega)
  by_cases c : left - (xs.length : Int) < 0
  · exact ⟨-1, Ev.congr (fun k => laws_szCoreS.f.eq_1 k _ _) (by rw [hw]; exact Ev.ifp c (Ev.now _)), by omega, .inl (by omega)⟩
  · obtain ⟨r, hr, hr1, hr2⟩ := sz_ev2 xs (fun x => x.f5.length ≤ 1048576 ∧ x.f4.size ≤ 1048576) (fun k left i => laws_szCoreS.l0 k xs left i) (fun left i hi h0 h1 => by
      obtain ⟨r, hr, hr1, hr2, hr3⟩ := szCore_ev xs[i] left (hx xs[i] (List.getElem_mem hi)) h0 h1
      refine ⟨r, hr1, ?_⟩
      by_cases c : r < 0
      · refine .inl ⟨c, Ev.step (fun k => laws_szCoreS.l0.eq_2 _ _ _ k) (Ev.ifp (by omega) (Ev.ifp (by omega) ?_))⟩
        rw [rdLC_at hi]
        exact Ev.bind hr (Ev.ifp c (Ev.now _))
      · refine .inr ⟨by omega, hr3.resolve_left c, fun q hq => Ev.step (fun k => laws_szCoreS.l0.eq_2 _ _ _ k) (Ev.ifp (by omega) (Ev.ifp (by omega) ?_))⟩
        rw [rdLC_at hi, wrap_succ hi (by omega)]
        exact Ev.bind hr (Ev.ifn c hq))
      (fun left => Ev.step (fun k => laws_szCoreS.l0.eq_2 _ _ _ k) (Ev.ifn (by omega) (Ev.now _))) xs.length 0 (left - (xs.length : Int)) (by omega) (by omega) (by omega)
    refine ⟨r, Ev.congr (fun k => laws_szCoreS.f.eq_1 k _ _) (by rw [hw]; exact Ev.ifn c hr), by omega, hr2.imp id (fun hz => ⟨by omega, fun x hx => ?_⟩)⟩
    obtain ⟨j, hj, rfl⟩ := List.mem_iff_getElem.mp hx
    exact hz j hj (by omega)
theorem toCoreS_ev (xs : List S35) (hl : xs.length ≤ 1048576) (hd : ∀ x ∈ xs, x.f5.length ≤ 1048576) : Ev (fun k => laws_toCoreS.f k xs) (xs.map convC) := by
  refine Ev.congr (fun k => laws_toCoreS.f.eq_1 k _) (Ev.ifp (by omega) (Ev.ifp (by omega) ?_))
  exact to_ev2 xs convC z40 (fun k out i => laws_toCoreS.l0 k xs out i) (fun out i hi ho r hr => by
    refine Ev.step (fun k => laws_toCoreS.l0.eq_2 _ _ _ k) (Ev.ifp (by omega) (Ev.ifp (by omega) ?_))
    rw [rdLC_at hi, wrap_succ hi (by omega)]
    refine Ev.bind (Ev.congr (fun k => laws_toCore.f.eq_1 k _ _ _ _ _ _) (Ev.bind (toDatumS_ev xs[i].f5 (hd _ (List.getElem_mem hi))) (Ev.now _))) (Ev.ifp (by omega) ?_)
    exact hr) (fun out ho => Ev.step (fun k => laws_toCoreS.l0.eq_2 _ _ _ k) (Ev.ifn (by omega) (Ev.now _)))
theorem eqCoreS_ev (xs : List S40) (hl : xs.length ≤ 1048576) (hd : ∀ x ∈ xs, x.f5.length ≤ 1048576) : Ev (fun k => laws_eqCoreS.f k xs xs) true := by
  refine Ev.congr (fun k => laws_eqCoreS.f.eq_1 k _ _) (Ev.ifp rfl ?_)
  exact all_ev2 xs.length (fun k i => laws_eqCoreS.l0 k xs xs i) true (fun i hi q hq => by
    refine Ev.step (fun k => laws_eqCoreS.l0.eq_2 _ _ _ k) (Ev.ifp (by omega) (Ev.ifp (by omega) (Ev.ifp (by omega) ?_)))
    rw [rdC_at hi, wrap_succ hi (by omega)]
    exact Ev.bind (Ev.congr (fun k => laws_eqCore.f.eq_1 k _ _ _ _ _ _ _ _ _ _ _ _) (Ev.ifp rfl (Ev.ifp rfl (Ev.ifp rfl (Ev.ifp rfl (Ev.ifp rfl (Ev.bind (eqDatumS_ev _ (hd _ (List.getElem_mem hi))) (Ev.ifp rfl (Ev.now _))))))))) (Ev.ifp rfl hq)) (Ev.step (fun k => laws_eqCoreS.l0.eq_2 _ _ _ k) (Ev.ifn (by omega) (Ev.now _))) xs.length 0 (by omega)
theorem convC_small {xs : List S35} (hd : ∀ x ∈ xs, x.f5.length ≤ 1048576) : ∀ x ∈ xs.map convC, x.f5.length ≤ 1048576 := by
  intro x hx
  obtain ⟨y, hy, rfl⟩ := List.mem_map.mp hx
  have := hd y hy
  simpa [convC] using this
end Go.Proofs.YtgnenhehcdekkadGreatDoor.A
