/- Proved: what the program's and the reference's texts of a token come to: the same. Conditions: those in each head. -/
import Derived.Test.YthjfdohcdkpdnaaDoorDigLib
import Derived.Test.YthjfdohcdkpdnaaDoorValueLib
import Derived.Test.YthjfdohcdkpdnaaDoorJ4
import Derived.Test.YthjfdohcdkpdnaaDoorJ1
import Derived.Test.YthjfdohcdkpdnaaDoorJ2
import Derived.Test.YthjfdohcdkpdnaaDoorJ3
namespace Go.Proofs.YthjfdohcdkpdnaaDoor.J
open Go.RowKit Go.Proofs.YthjfdohcdkpdnaaDoorW.PrintWords Go.Proofs.YthjfdohcdkpdnaaDoorW.PrintLast Go.Proofs.YthjfdohcdkpdnaaDoor.PL
set_option linter.unusedSimpArgs false

/-- A token's form is wrong. -/
def tokBad (K N : Int) (s : ByteArray) : Bool := !inB K 1 6 || (N != 0 && K != 4 && K != 5) || (!s.toList.isEmpty && K != 6)
/-- The fault of a token. -/
def tokM (K N : Int) (s : ByteArray) : Int := if tokBad K N s = true then 1 else kindM K 4 6 5 N s
def boolT (N : Int) : ByteArray := if N = 1 then ⟨#[35, 116]⟩ else ⟨#[35, 102]⟩
/-- The text of a token that has no fault. -/
def tokT (K N : Int) (s : ByteArray) : ByteArray := if K = 1 then ⟨#[40]⟩ else if K = 2 then ⟨#[41]⟩ else if K = 3 then ⟨#[39]⟩ else if K = 4 then dig N else if K = 5 then boolT N else s
def tokR (K N : Int) (s : ByteArray) : Int × ByteArray := if tokM K N s = 0 then (0, tokT K N s) else (tokM K N s, ⟨#[]⟩)
theorem specNumFault_eq (n : Int) : spec_NumFault.f n = some (numM n) := by
  unfold spec_NumFault.f numM
  rw [l1Num_eq, Option.bind_some]
  split <;> rfl
theorem l2Fault_ev (K N : Int) (s : ByteArray) (hs : s.size ≤ 9223372036854775807) : Ev (fun k => spec_l2Fault.f k K N s) (tokM K N s) := by
  have j1 : ∀ b : Bool, b = tokBad K N s → Ev (fun k => spec_l2Fault.j1 k b K N s) (tokM K N s) := fun b hb => by
    subst hb
    unfold tokM
    refine Ev.step (fun k => spec_l2Fault.j1.eq_2 _ _ _ _ k) (Ev.iff (fun c => Ev.leaf (by rw [if_pos c])) (fun c => ?_))
    rw [if_neg c]
    unfold kindM
    refine Ev.iff (fun c4 => Ev.bind0 (specNumFault_eq N) (Ev.leaf (by rw [if_pos c4]))) (fun c4 => ?_)
    rw [if_neg c4]
    refine Ev.iff (fun c5 => ?_) (fun c5 => ?_)
    · rw [if_pos c5]
      exact Ev.bind0 (l1In_eq _ _ _) (Ev.iff (fun d => Ev.leaf (by rw [if_pos d])) (fun d => Ev.leaf (by rw [if_neg d])))
    · rw [if_neg c5]
      exact Ev.iff (fun c6 => Ev.bind (specSymFault_ev s hs) (Ev.leaf (by rw [if_pos c6]))) (fun c6 => Ev.leaf (by rw [if_neg c6]))
  have j0 : ∀ b : Bool, b = (K == 4 || K == 5) → Ev (fun k => spec_l2Fault.j0 k b K N s) (tokM K N s) := fun b hb => by
    refine Ev.step (fun k => spec_l2Fault.j0.eq_2 _ _ _ _ k) (Ev.bind0 (l1In_eq _ _ _) (Ev.iff (fun c => Ev.iff (fun d => Ev.iff (fun e => j1 _ ?_) (fun e => j1 _ ?_)) (fun d => Ev.iff (fun f => Ev.iff (fun e => j1 _ ?_) (fun e => j1 _ ?_)) (fun f => j1 _ ?_))) (fun c => j1 _ ?_)))
    all_goals unfold tokBad
    · have z : (N != 0 && K != 4 && K != 5) = false := by rw [d] at hb; cases h4 : (K == 4) <;> cases h5 : (K == 5) <;> simp_all
      rw [c, z, e]; simp
    · have z : (N != 0 && K != 4 && K != 5) = false := by rw [d] at hb; cases h4 : (K == 4) <;> cases h5 : (K == 5) <;> simp_all
      rw [c, z, ne_nil_b]; simp [e]
    · rw [c, f, e]; simp
    · rw [c, f, ne_nil_b]; simp [e]
    · have z : (N != 0 && K != 4 && K != 5) = true := by cases h4 : (K == 4) <;> cases h5 : (K == 5) <;> simp_all
      rw [z]; simp
    · simp only [Bool.not_eq_true] at c
      rw [c]; simp
  exact Ev.congr (fun k => spec_l2Fault.f.eq_1 k _ _ _) (Ev.iff (fun c => j0 _ (by simp [c])) (fun c => j0 _ (by simp [c])))
theorem tok_ok {K N : Int} {s : ByteArray} (h : tokM K N s = 0) : (1 ≤ K ∧ K ≤ 6) ∧ (K = 4 → numB N = true) ∧ (K = 5 → 0 ≤ N ∧ N ≤ 1) ∧ (K = 6 → symB s = true) := by
  unfold tokM at h
  by_cases c : tokBad K N s = true
  · rw [if_pos c] at h; omega
  · rw [if_neg c] at h
    have hk : inB K 1 6 = true := by
      cases z : inB K 1 6
      · exfalso; apply c; unfold tokBad; rw [z]; simp
      · rfl
    refine ⟨inB_iff.mp hk, fun e => ?_, fun e => ?_, fun e => ?_⟩
    · subst e; unfold kindM at h; rw [if_pos rfl] at h; exact numM_0.mp h
    · subst e
      unfold kindM at h
      rw [if_neg (by omega), if_pos rfl] at h
      by_cases z : inB N 0 1 = true
      · exact inB_iff.mp z
      · rw [if_neg z] at h; omega
    · subst e
      unfold kindM symM at h
      rw [if_neg (by omega), if_neg (by omega), if_pos rfl] at h
      by_cases z : symB s = true
      · exact z
      · rw [if_neg z] at h; omega
theorem l2Text_ev {K N : Int} {s : ByteArray} (h : tokM K N s = 0) : Ev (fun k => spec_l2Text.f k K N s) (tokT K N s) := by
  obtain ⟨hk, h4, h5, _⟩ := tok_ok h
  refine Ev.congr (fun k => spec_l2Text.f.eq_1 k _ _ _) ?_
  unfold tokT
  refine Ev.iff (fun c => Ev.leaf (by rw [if_pos c])) (fun c => ?_)
  rw [if_neg c]
  refine Ev.iff (fun c => Ev.leaf (by rw [if_pos c])) (fun c => ?_)
  rw [if_neg c]
  refine Ev.iff (fun c => Ev.leaf (by rw [if_pos c])) (fun c => ?_)
  rw [if_neg c]
  refine Ev.iff (fun c => Ev.bind (digits_ev (h4 c)) (Ev.leaf (by rw [if_pos c]))) (fun c => ?_)
  rw [if_neg c]
  refine Ev.iff (fun c => ?_) (fun c => Ev.leaf (by rw [if_neg c]))
  rw [if_pos c]
  have hb := h5 c
  refine Ev.bind0 rfl (Ev.ifp hb.1 (Ev.ifp (by simp; omega) (Ev.leaf ?_)))
  unfold boolT
  by_cases z : N = 1
  · subst z; rfl
  · obtain rfl : N = 0 := by omega
    rfl
theorem mark_text {K : Int} (h0 : 1 ≤ K) (h1 : K ≤ 3) : (⟨#[40, 41, 39]⟩ : ByteArray).extract (wrap64 (K - 1)).toNat K.toNat = if K = 1 then ⟨#[40]⟩ else if K = 2 then ⟨#[41]⟩ else ⟨#[39]⟩ := by
  rcases (show K = 1 ∨ K = 2 ∨ K = 3 by omega) with rfl | rfl | rfl <;> decide +kernel
theorem implTokenText_ev (K N : Int) (s : ByteArray) (hs : s.size ≤ 9223372036854775807) : Ev (fun k => impl_TokenText.f k K N s) (tokR K N s) := by
  have j0 : ∀ b : Bool, b = tokBad K N s → Ev (fun k => impl_TokenText.j0 k b K N s) (tokR K N s) := fun b hb => by
    subst hb
    refine Ev.step (fun k => impl_TokenText.j0.eq_2 _ _ _ _ k) (Ev.iff (fun c => Ev.leaf ?_) (fun c => ?_))
    · unfold tokR tokM; rw [if_pos c, if_neg (by omega)]
    · have hm : tokM K N s = kindM K 4 6 5 N s := by unfold tokM; rw [if_neg c]
      refine Ev.bind0 (kindFault_eq _ _ _ _ _ _ hs) (Ev.iff (fun d => ?_) (fun d => Ev.leaf ?_))
      · have h0 : tokM K N s = 0 := hm.trans d
        obtain ⟨hk, h4, h5, _⟩ := tok_ok h0
        unfold tokR tokT
        rw [if_pos h0]
        refine Ev.iff (fun e => ?_) (fun e => Ev.iff (fun f => ?_) (fun f => Ev.iff (fun g => ?_) (fun g => ?_)))
        · exact Ev.bind0 (dec_eq (h4 e)) (Ev.leaf (by rw [if_neg (by omega), if_neg (by omega), if_neg (by omega), if_pos e]))
        · refine Ev.bind0 (a := boolT N) (by unfold impl_boolText.f boolT; split <;> rfl) (Ev.leaf (by rw [if_neg (by omega), if_neg (by omega), if_neg (by omega), if_neg e, if_pos f]))
        · exact Ev.leaf (by rw [if_neg (by omega), if_neg (by omega), if_neg (by omega), if_neg e, if_neg f])
        · have hw : wrap64 (K - 1) = K - 1 := wrap_id (by omega) (by omega)
          refine Ev.ifp (by omega) (Ev.ifp (by omega) (Ev.ifp (by omega) (Ev.leaf ?_)))
          rw [mark_text (by omega) (by omega)]
          by_cases k1 : K = 1
          · rw [if_pos k1, if_pos k1]
          · rw [if_neg k1, if_neg k1]
            by_cases k2 : K = 2
            · rw [if_pos k2, if_pos k2]
            · rw [if_neg k2, if_neg k2, if_pos (by omega)]
      · unfold tokR; rw [if_neg (by rw [hm]; exact d), hm]
  refine Ev.congr (fun k => impl_TokenText.f.eq_1 k _ _ _) (Ev.bind0 (in_eq _ _ _) ?_)
  repeat' first
    | refine Ev.iff (fun _ => ?_) (fun _ => ?_)
    | refine j0 _ ?_
  all_goals simp_all [tokBad]
end Go.Proofs.YthjfdohcdkpdnaaDoor.J
