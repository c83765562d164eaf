/- Proved: the pure statement behind the law FnPrims: whatever its arguments, the law's plain function answers true. Conditions: the arguments are well formed values of their types. -/
import Derived.Test.YtgoccbnpchglkaaDoorDrawLib
import Derived.Test.YtgoccbnpchglkaaDoorP10
import Derived.Test.YtgoccbnpchglkaaDoorP3
import Derived.Test.YtgoccbnpchglkaaDoorP8
import Derived.Test.YtgoccbnpchglkaaDoorP9
namespace Go.Proofs.YtgoccbnpchglkaaDoor.Pure
open Go.RowKit Go.Proofs.YtgoccbnpchglkaaDoor.P Go.Proofs.YtgoccbnpchglkaaDoorW.PrintWords Go.Proofs.YtgoccbnpchglkaaDoorW.PrintLast Go.Proofs.YtgoccbnpchglkaaDoor.PL
set_option linter.unusedSimpArgs false

/-- The primitives' names. -/
def prN : List ByteArray := [(⟨#[43]⟩ : ByteArray), (⟨#[45]⟩ : ByteArray), (⟨#[42]⟩ : ByteArray), (⟨#[113, 117, 111]⟩ : ByteArray), (⟨#[114, 101, 109]⟩ : ByteArray), (⟨#[60]⟩ : ByteArray), (⟨#[61]⟩ : ByteArray), (⟨#[99, 111, 110, 115]⟩ : ByteArray), (⟨#[99, 97, 114]⟩ : ByteArray), (⟨#[99, 100, 114]⟩ : ByteArray), (⟨#[110, 117, 108, 108, 63]⟩ : ByteArray), (⟨#[112, 97, 105, 114, 63]⟩ : ByteArray), (⟨#[101, 113, 63]⟩ : ByteArray), (⟨#[110, 111, 116]⟩ : ByteArray), (⟨#[108, 105, 115, 116]⟩ : ByteArray), (⟨#[99, 97, 108, 108, 47, 99, 99]⟩ : ByteArray)]
theorem impl_names : impl_primNames.f = some prN := rfl
theorem spec_names : spec_l6Names.f = some prN := rfl
/-- The first place of a name, from a place on. -/
def atN (m : ByteArray) : Nat → Nat → Option Nat
  | 0, _ => none
  | d + 1, i => if m.toList = (rdOf ByteArray.empty prN (i : Int)).toList then some i else atN m d (i + 1)
theorem impl_at (m : ByteArray) : ∀ (d i : Nat), i + d = 16 → Ev (fun k => slices_Index_string_string.l0 k prN m 16 (i : Int)) (match atN m d i with | some j => (j : Int) | none => -1)
  | 0, i, h => Ev.step (fun k => slices_Index_string_string.l0.eq_2 _ _ _ _ k) (Ev.ifn (by omega) (Ev.now _))
  | d + 1, i, h => by
    have hl : prN.length = 16 := rfl
    refine Ev.step (fun k => slices_Index_string_string.l0.eq_2 _ _ _ _ k) (Ev.ifp (by omega) (Ev.ifp (by omega) (Ev.ifp (by omega) (Ev.iff (fun c => Ev.leaf ?_) (fun c => ?_)))))
    · simp only [atN]; rw [if_pos c]
    · simp only [atN]
      rw [if_neg c, wrap_succ (n := 16) (by omega) (by omega)]
      exact impl_at m d (i + 1) (by omega)
theorem spec_at (m : ByteArray) : ∀ (d i : Nat), i + d = 16 → Ev (fun k => spec_PrimOf.l0 k m prN (i : Int)) (match atN m d i with | some j => (0, (j : Int)) | none => (4, 0))
  | 0, i, h => by
    have hl : prN.length = 16 := rfl
    exact Ev.step (fun k => spec_PrimOf.l0.eq_2 _ _ _ k) (Ev.ifn (by omega) (Ev.now _))
  | d + 1, i, h => by
    have hl : prN.length = 16 := rfl
    refine Ev.step (fun k => spec_PrimOf.l0.eq_2 _ _ _ k) (Ev.ifp (by omega) (Ev.ifp (by omega) (Ev.iff (fun c => Ev.leaf ?_) (fun c => ?_))))
    · simp only [atN]; rw [if_pos c.symm]
    · simp only [atN]
      rw [if_neg (fun e => c e.symm), wrap_succ (n := 16) (by omega) (by omega)]
      exact spec_at m d (i + 1) (by omega)
theorem atN_some {m : ByteArray} : ∀ {d i j}, atN m d i = some j → i ≤ j ∧ j < i + d ∧ m.toList = (rdOf ByteArray.empty prN (j : Int)).toList
  | 0, i, j, h => by simp [atN] at h
  | d + 1, i, j, h => by
    simp only [atN] at h
    by_cases c : m.toList = (rdOf ByteArray.empty prN (i : Int)).toList
    · rw [if_pos c] at h
      obtain rfl := Option.some.inj h
      exact ⟨Nat.le_refl _, by omega, c⟩
    · rw [if_neg c] at h
      have := atN_some h
      exact ⟨by omega, by omega, this.2.2⟩
/-- Four rounds, one behind the other: what the primitive says to none, one, two, three numbers. -/
theorem rounds_ok : ∀ p : Fin 16, laws_FnPrims.l0 40 [] 0 0 (p.val : Int) 0 ((impl_ArgsFor.f 5 (p.val : Int)).getD (0, [])).2 = some true := by decide +kernel
theorem args_ok : ∀ p : Fin 16, ∃ a b : Int, impl_ArgsFor.f 5 (p.val : Int) = some (0, [a, b]) ∧ a ≤ b := by
  intro p
  have h : ∀ p : Fin 16, (match impl_ArgsFor.f 5 (p.val : Int) with | some (0, [a, b]) => decide (a ≤ b) | _ => false) = true := by decide +kernel
  have hp := h p
  split at hp
  · rename_i a b e
    exact ⟨a, b, e, by simpa using hp⟩
  · exact absurd hp (by decide)
theorem draw_ex (l : List Int) (hl : okB l) : ∃ m, spec_DrawPrimOf.f l = some m := by
  obtain ⟨v, hv, _⟩ := next_eq l hl 0 5 (by omega) (by omega) (by omega)
  have hch : spec_l1Chance.f l 0 5 = some ((v == 0), 0 + 1) := by unfold spec_l1Chance.f; rw [hv, Option.bind_some]
  unfold spec_DrawPrimOf.f
  rw [show spec_l1Source.f l = some (l, 0) from rfl, Option.bind_some]
  simp only []
  rw [hch, Option.bind_some]
  simp only []
  by_cases c : (v == 0) = true
  · obtain ⟨u, hu, u0, u1, _⟩ := next_eq l hl (0 + 1) 4 (by omega) (by omega) (by omega)
    have u2 := u1 (by omega)
    rw [if_pos c, Option.bind_some, hu, Option.bind_some]
    exact ⟨_, by rw [if_pos u0, if_pos (by simp; omega)]⟩
  · obtain ⟨u, hu, u0, u1, _⟩ := next_eq l hl (0 + 1) 16 (by omega) (by omega) (by omega)
    have u2 := u1 (by omega)
    have hl16 : prN.length = 16 := rfl
    rw [if_neg c, spec_names, Option.bind_some, hu, Option.bind_some]
    exact ⟨_, by rw [if_pos u0, if_pos (by omega)]⟩
theorem FnPrims : ∀ (l0 : List Int), (l0.length ≤ maxLen ∧ ∀ y ∈ l0, (Lit.int .u8 y).wf = true) → ∃ k, laws_FnPrims.f k l0 = some true := by
  intro l0 h
  refine Ev.rounds (r := true) (Ev.congr (fun k => laws_FnPrims.f.eq_1 k _) (Ev.bind0 rfl (Ev.iff (fun _ => Ev.now _) (fun c => ?_))))
  have hl : okB l0 := okB_of l0 (by have z := c; simp at z; omega) h.2
  obtain ⟨m, hm⟩ := draw_ex l0 hl
  have hi := impl_at m 16 0 rfl
  have hs := spec_at m 16 0 rfl
  refine Ev.step (fun k => laws_FnPrims.j0.eq_2 _ k) (Ev.bind0 hm ?_)
  cases ha : atN m 16 0 with
  | none =>
    rw [ha] at hi hs
    have h1 : Ev (fun k => impl_PrimOf.f k m) (4, 0) := Ev.congr (fun k => impl_PrimOf.f.eq_1 k _) (Ev.bind0 impl_names (Ev.bind (Ev.congr (fun k => slices_Index_string_string.f.eq_1 k _ _) hi) (Ev.ifp (by decide) (Ev.now _))))
    have h2 : Ev (fun k => spec_PrimOf.f k m) (4, 0) := Ev.congr (fun k => spec_PrimOf.f.eq_1 k _) (Ev.bind0 spec_names hs)
    exact Ev.bind h1 (Ev.ifn (by decide) (Ev.bind h2 (Ev.leaf rfl)))
  | some j =>
    rw [ha] at hi
    obtain ⟨_, hj, hmj⟩ := atN_some ha
    have h1 : Ev (fun k => impl_PrimOf.f k m) (0, (j : Int)) := Ev.congr (fun k => impl_PrimOf.f.eq_1 k _) (Ev.bind0 impl_names (Ev.bind (Ev.congr (fun k => slices_Index_string_string.f.eq_1 k _ _) hi) (Ev.ifn (by show ¬ ((j : Int) < 0); omega) (Ev.now _))))
    obtain ⟨a, b, hab, hle⟩ := args_ok ⟨j, by omega⟩
    have hr := rounds_ok ⟨j, by omega⟩
    have hA : Ev (fun k => impl_ArgsFor.f k (j : Int)) (0, [a, b]) := Ev.of (fun k => impl_ArgsFor.mono _ k) hab
    have hR : Ev (fun k => laws_FnPrims.l0 k [] 0 0 (j : Int) 0 [a, b]) true := by
      refine Ev.of (k := 40) (fun k => ?_) ?_
      · exact (laws_FnPrims.mono_l k).2.2.2.2.2.1 _ _ _ _ _ _
      · rw [hab] at hr; exact hr
    have hT : impl_PrimText.f (j : Int) = some (0, rdOf ByteArray.empty prN (j : Int)) := by
      have : ∀ p : Fin 16, impl_isPrim.f (p.val : Int) = some true := by decide +kernel
      have hl16 : prN.length = 16 := rfl
      unfold impl_PrimText.f
      rw [this ⟨j, by omega⟩, Option.bind_some, if_pos rfl, impl_names, Option.bind_some, if_pos (by omega), if_pos (by omega)]
    refine Ev.bind h1 (Ev.ifp rfl (Ev.step (fun k => laws_FnPrims.j1.eq_2 _ _ _ k) (Ev.bind0 hT (Ev.bind hA (Ev.ifp hmj.symm (Ev.ifp rfl (Ev.ifp rfl (Ev.ifp (by show (0 : Int) < 2; decide) (Ev.ifp (by show (1 : Int) < 2; decide) ?_)))))))))
    refine Ev.step (fun k => laws_FnPrims.j2.eq_2 _ _ _ _ _ k) (Ev.ifn ?_ (Ev.step (fun k => laws_FnPrims.j3.eq_2 _ _ _ _ k) hR))
    show ¬ (decide (a > b) = true)
    simp
    omega
end Go.Proofs.YtgoccbnpchglkaaDoor.Pure
