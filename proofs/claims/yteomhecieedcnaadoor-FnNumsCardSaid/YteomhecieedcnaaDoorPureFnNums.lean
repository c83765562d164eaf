/- Proved: the pure statement behind the law FnNums: whatever its arguments, the law's plain function answers true. Conditions: the arguments are well formed values of their types. -/
import Derived.Test.YteomhecieedcnaaDoorParseLib2
import Derived.Test.YteomhecieedcnaaDoorAddLib
import Derived.Test.YteomhecieedcnaaDoorDrawLib
import Derived.Test.YteomhecieedcnaaDoorA4
import Derived.Test.YteomhecieedcnaaDoorA4
import Derived.Test.YteomhecieedcnaaDoorA4
import Derived.Test.YteomhecieedcnaaDoorA5
import Derived.Test.YteomhecieedcnaaDoorA6
namespace Go.Proofs.YteomhecieedcnaaDoor.Pure
open Go.RowKit Go.Proofs.YteomhecieedcnaaDoor.A Go.Proofs.YteomhecieedcnaaDoorW.PrintWords Go.Proofs.YteomhecieedcnaaDoorW.PrintLast Go.Proofs.YteomhecieedcnaaDoor.PL
set_option linter.unusedSimpArgs false

theorem addPair_eq (l : List Int) (hl : okB l) : ∃ a b, spec_DrawAddNum.f l = some (a, b) := by
  obtain ⟨a, ha, _⟩ := bent_eq l hl 0 (by omega) (by omega)
  obtain ⟨b, hb, _⟩ := bent_eq l hl (0 + 10) (by omega) (by omega)
  refine ⟨a, b, ?_⟩
  unfold spec_DrawAddNum.f spec_l1Pair.f spec_l1Source.f
  rw [Option.bind_some]
  simp only []
  rw [ha, Option.bind_some]
  simp only []
  rw [hb, Option.bind_some]
  rfl
theorem rdOf_size {xs : List ByteArray} {i : Int} (h0 : 0 ≤ i) (h1 : i < (xs.length : Int)) (hx : ∀ m ∈ xs, m.size ≤ 12) : (rdOf ByteArray.empty xs i).size ≤ 12 := by
  have hi : i.toNat < xs.length := by omega
  have : rdOf ByteArray.empty xs i ∈ xs := by
    unfold rdOf
    simp [List.getD, hi]
  exact hx _ this
theorem dig_size {n : Int} (h : numB n = true) : (dig n).size ≤ 11 := by
  have := itoa_len h
  unfold dig
  simpa [ByteArray.size] using this
theorem drawParse_ev (l : List Int) (hl : okB l) : ∃ t, Ev (fun k => spec_DrawParseNum.f k l) t ∧ t.size ≤ 1048576 := by
  obtain ⟨v, hv, v0, v1⟩ := draw_eq l hl 0 (by omega) (by omega)
  have hn : numB v = true := numB_iff.mpr ⟨v0, v1⟩
  have hd := digits_ev hn
  have hz := dig_size hn
  obtain ⟨c, hc, _⟩ := next_eq l hl (0 + 3) 6 (by omega) (by omega) (by omega)
  obtain ⟨x, hx, x0, x1, _⟩ := next_eq l hl (0 + 3 + 1) 4 (by omega) (by omega) (by omega)
  obtain ⟨y, hy, y0, y1, _⟩ := next_eq l hl (0 + 3 + 1) 5 (by omega) (by omega) (by omega)
  have x2 := x1 (by omega)
  have y2 := y1 (by omega)
  have sx := rdOf_size (xs := [(⟨#[120]⟩ : ByteArray), (⟨#[49]⟩ : ByteArray), (⟨#[45]⟩ : ByteArray), (⟨#[32]⟩ : ByteArray)]) x0 (by simp; omega) (by decide +kernel)
  by_cases c0 : c = 0
  · refine ⟨_, Ev.congr (fun k => spec_DrawParseNum.f.eq_1 k _) (Ev.bind0 rfl (Ev.bind0 hv (Ev.bind hd (Ev.bind0 hc (Ev.ifp c0 (Ev.ifp (by omega) (Ev.now _))))))), ?_⟩
    rw [ByteArray.size_append]
    have : (⟨#[48]⟩ : ByteArray).size = 1 := rfl
    omega
  by_cases c1 : c = 1
  · refine ⟨_, Ev.congr (fun k => spec_DrawParseNum.f.eq_1 k _) (Ev.bind0 rfl (Ev.bind0 hv (Ev.bind hd (Ev.bind0 hc (Ev.ifn c0 (Ev.ifp c1 (Ev.bind0 rfl (Ev.bind0 hx (Ev.ifp x0 (Ev.ifp (by simp; omega) (Ev.ifp ?_ (Ev.now _)))))))))))), ?_⟩
    · show (dig v).size + (rdOf ByteArray.empty _ x).size ≤ 9223372036854775807
      omega
    · rw [ByteArray.size_append]
      show (dig v).size + (rdOf ByteArray.empty _ x).size ≤ 1048576
      omega
  by_cases c2 : c = 2
  · refine ⟨_, Ev.congr (fun k => spec_DrawParseNum.f.eq_1 k _) (Ev.bind0 rfl (Ev.bind0 hv (Ev.bind hd (Ev.bind0 hc (Ev.ifn c0 (Ev.ifn c1 (Ev.ifp c2 (Ev.bind0 rfl (Ev.bind0 hy (Ev.ifp y0 (Ev.ifp (by simp; omega) (Ev.now _)))))))))))), ?_⟩
    exact Nat.le_trans (rdOf_size y0 (by simp; omega) (by decide +kernel)) (by omega)
  · exact ⟨_, Ev.congr (fun k => spec_DrawParseNum.f.eq_1 k _) (Ev.bind0 rfl (Ev.bind0 hv (Ev.bind hd (Ev.bind0 hc (Ev.ifn c0 (Ev.ifn c1 (Ev.ifn c2 (Ev.now _)))))))), by omega⟩
theorem numText_eq {n : Int} (h : numB n = true) : impl_NumText.f n = some (0, dig n) := by
  unfold impl_NumText.f
  rw [NumFault_eq, Option.bind_some, if_pos (numM_0.mpr h), dec_eq h, Option.bind_some]
theorem specFault_eq (n : Int) : spec_NumFault.f n = some (numM n) := by
  unfold spec_NumFault.f numM
  rw [l1Num_eq, Option.bind_some]
  split <;> rfl
theorem nums_j2 (l : List Int) (hl : okB l) : Ev (fun k => laws_FnNums.j2 k l) true := by
  obtain ⟨a, b, hd⟩ := addPair_eq l hl
  refine Ev.step (fun k => laws_FnNums.j2.eq_2 _ k) (Ev.bind0 hd (Ev.bind (implAdd_ev a b) (Ev.iff (fun c0 => ?_) (fun c0 => ?_))))
  · have c0' : (addM a b).1 = 0 := c0
    have hab : (numB a && numB b) = true ∧ addM a b = ofR (wrap64 (a + b)) := by
      unfold addM at c0' ⊢
      split at c0'
      · rename_i z
        exact ⟨z, by rw [if_pos z]⟩
      · simp at c0'
    obtain ⟨hn, he⟩ := hab
    have hn2 := hn
    simp only [Bool.and_eq_true] at hn2
    have h1 := numB_iff.mp hn2.1
    have h2 := numB_iff.mp hn2.2
    rw [wrap_id (x := a + b) (by omega) (by omega)] at he
    have hs : numB (a + b) = true := by
      cases z : numB (a + b)
      · rw [he] at c0'
        unfold ofR at c0'
        rw [z] at c0'
        simp at c0'
      · rfl
    have he2 : addM a b = (0, a + b) := by rw [he]; unfold ofR; rw [if_pos hs]
    have he3 : addM b a = (0, a + b) := by
      unfold addM ofR
      rw [if_pos (by rw [hn2.1, hn2.2]; rfl), wrap_id (x := b + a) (by omega) (by omega), Int.add_comm b a, if_pos hs]
    have hb2 : subM (a + b) b = (0, a) := by
      unfold subM ofR
      rw [if_pos (by rw [hs, hn2.2]; rfl), wrap_id (x := a + b - b) (by omega) (by omega), show a + b - b = a from by omega, if_pos hn2.1]
    have hp := (implParseNum_eq (dig a) (by have := dig_size hn2.1; omega)).1 a hn2.1 rfl
    have hS := implSub_ev (a + b) b
    rw [hb2] at hS
    have hA := implAdd_ev b a
    rw [he3] at hA
    rw [he2]
    exact Ev.step (fun k => laws_FnNums.j4.eq_2 _ _ _ _ k) (Ev.bind hS (Ev.bind0 (numText_eq hn2.1) (Ev.ifp rfl (Ev.ifp rfl (Ev.bind hA (Ev.ifp rfl (Ev.ifp rfl (Ev.bind0 hp (Ev.ifp rfl (Ev.bind0 hp (Ev.step (fun k => laws_FnNums.j5.eq_2 _ k) (Ev.now _))))))))))))
  · exact Ev.bind0 (specAdd_eq a b) (Ev.ifp rfl (Ev.bind0 (NumFault_eq a) (Ev.bind0 (specFault_eq a) (Ev.step (fun k => laws_FnNums.j3.eq_2 _ k) (Ev.leaf (by simp))))))
theorem FnNums : ∀ (l0 : List Int), (l0.length ≤ maxLen ∧ ∀ y ∈ l0, (Lit.int .u8 y).wf = true) → ∃ k, laws_FnNums.f k l0 = some true := by
  intro l0 h
  refine Ev.rounds (r := true) (Ev.congr (fun k => laws_FnNums.f.eq_1 k _) (Ev.bind0 rfl (Ev.iff (fun _ => Ev.now _) (fun c => ?_))))
  have hl : okB l0 := okB_of l0 (by have z := c; simp at z; omega) h.2
  obtain ⟨t, ht, hz⟩ := drawParse_ev l0 hl
  have j1 : Ev (fun k => laws_FnNums.j1 k l0 false) true := Ev.step (fun k => laws_FnNums.j1.eq_2 _ _ k) (Ev.ifn (by simp) (nums_j2 l0 hl))
  refine Ev.step (fun k => laws_FnNums.j0.eq_2 _ k) (Ev.bind ht ?_)
  by_cases hd : isDig t
  · obtain ⟨n, hn, e⟩ := hd
    exact Ev.bind0 ((implParseNum_eq t hz).1 n hn e) (Ev.ifp rfl (Ev.bind0 (numText_eq hn) (Ev.ifp (by rw [e]) j1)))
  · refine Ev.bind0 ((implParseNum_eq t hz).2 hd) (Ev.ifn (by simp) (Ev.bind ((specParseNum_ev t hz).2 hd) ?_))
    simpa using j1
end Go.Proofs.YteomhecieedcnaaDoor.Pure
