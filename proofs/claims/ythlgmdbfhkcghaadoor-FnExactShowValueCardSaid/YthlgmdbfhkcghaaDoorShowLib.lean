/- Proved: what the program's and the reference's texts of values come to: the same. Conditions: those in each head. -/
import Derived.Test.YthlgmdbfhkcghaaDoorHeapOkLib
import Derived.Test.YthlgmdbfhkcghaaDoorDigLib
import Derived.Test.YthlgmdbfhkcghaaDoorS8
import Derived.Test.YthlgmdbfhkcghaaDoorS5
import Derived.Test.YthlgmdbfhkcghaaDoorS5
import Derived.Test.YthlgmdbfhkcghaaDoorS9
import Derived.Test.YthlgmdbfhkcghaaDoorS7
namespace Go.Proofs.YthlgmdbfhkcghaaDoor.S
open Go.RowKit Go.Proofs.YthlgmdbfhkcghaaDoorW.PrintWords Go.Proofs.YthlgmdbfhkcghaaDoorW.PrintLast Go.Proofs.YthlgmdbfhkcghaaDoor.PL
set_option linter.unusedSimpArgs false

/-! ### What a list begins with -/
def Beg {α : Type} (a b : List α) : Prop := b.take 120 = a.take 120
theorem Beg.refl {α : Type} (a : List α) : Beg a a := rfl
theorem Beg.of {α : Type} {a b : List α} (h : b = a) : Beg a b := h ▸ rfl
theorem take_app {α : Type} (a c : List α) (n : Nat) : (a ++ c).take n = (a.take n ++ c).take n := by
  rw [List.take_append, List.take_append, List.take_take, Nat.min_self, List.length_take]
  congr 1
  rcases Nat.le_total n a.length with h | h
  · rw [Nat.min_eq_left h, Nat.sub_self, Nat.sub_eq_zero_of_le h]
  · rw [Nat.min_eq_right h]
theorem Beg.app {α : Type} {a b : List α} (h : Beg a b) (c : List α) : Beg (a ++ c) (b ++ c) := by
  unfold Beg at h ⊢
  rw [take_app b, take_app a, h]
theorem Beg.trans {α : Type} {a b c : List α} (h : Beg a b) (k : Beg b c) : Beg a c := Eq.trans k h
theorem Beg.stop {α : Type} {a b : List α} (h : Beg a b) (hl : 120 ≤ b.length) (c : List α) : Beg (a ++ c) b := by
  unfold Beg at h ⊢
  have h1 : (b.take 120).length = 120 := by rw [List.length_take]; omega
  rw [h, List.length_take] at h1
  rw [h, List.take_append_of_le_length (by omega)]
/-! ### The text of a value -/
def n8 (l : List UInt8) : List Int := l.map fun b => (b.toNat : Int)
theorem n8_len (l : List UInt8) : (n8 l).length = l.length := by simp [n8]
theorem n8_app (a b : List UInt8) : n8 a ++ n8 b = n8 (a ++ b) := by simp [n8]
theorem bytesOf_n8 (l : List UInt8) : bytesOf ⟨l.toArray⟩ = n8 l := by simp [bytesOf, n8]
theorem bytesOf_data (s : ByteArray) : bytesOf s = n8 s.data.toList := rfl
def boolV (N : Int) : List UInt8 := if N = 1 then [35, 116] else [35, 102]
def scalT (v : S28) : List UInt8 := if v.f0 = 1 then Lib.itoa v.f1 else if v.f0 = 2 then boolV v.f1 else if v.f0 = 3 then [40, 41] else if v.f0 = 4 then v.f2.data.toList else if v.f0 = 6 then [35, 112, 114, 111, 99] else if v.f0 = 7 then [35, 99, 111, 110, 116] else if v.f0 = 8 then [35, 112, 114, 105, 109] else [35, 110, 111, 110, 101]
def inner (xs : List S70) : Nat → Int → List UInt8
  | 0, _ => []
  | n + 1, q => (if (rd_T70 xs q).f0.f0 = 5 then 40 :: inner xs n (rd_T70 xs q).f0.f1 else scalT (rd_T70 xs q).f0) ++ (if (rd_T70 xs q).f1.f0 = 5 then 32 :: inner xs n (rd_T70 xs q).f1.f1 else if (rd_T70 xs q).f1.f0 = 3 then [41] else [32, 46, 32] ++ scalT (rd_T70 xs q).f1 ++ [41])
def valT (xs : List S70) (n : Nat) (v : S28) : List UInt8 := if v.f0 = 5 then 40 :: inner xs n v.f1 else scalT v
def endT (xs : List S70) (n : Nat) (v : S28) : List UInt8 := if v.f0 = 5 then 32 :: inner xs n v.f1 else if v.f0 = 3 then [41] else [32, 46, 32] ++ scalT v ++ [41]
theorem inner_succ (xs : List S70) (n : Nat) (q : Int) : inner xs (n + 1) q = valT xs n (rd_T70 xs q).f0 ++ endT xs n (rd_T70 xs q).f1 := rfl
theorem val_ok {v : S28} (h : valM v = 0) : (1 ≤ v.f0 ∧ v.f0 ≤ 9) ∧ (v.f0 = 1 → numB v.f1 = true) ∧ (v.f0 = 2 → 0 ≤ v.f1 ∧ v.f1 ≤ 1) ∧ (v.f0 = 4 → v.f2.size ≤ 12) := by
  unfold valM valueM at h
  by_cases c : formB v.f0 v.f1 v.f2 = true
  · rw [if_pos c] at h; omega
  rw [if_neg c] at h
  by_cases d : rangeB v.f0 v.f1 = true
  · rw [if_pos d] at h; omega
  rw [if_neg d] at h
  have hk : inB v.f0 1 9 = true := by
    cases z : inB v.f0 1 9
    · exfalso; apply c; unfold formB; rw [z]; simp
    · rfl
  refine ⟨inB_iff.mp hk, fun e => ?_, fun e => ?_, fun e => ?_⟩
  · cases z : numB v.f1
    · exfalso; apply d; unfold rangeB; rw [z, e]; simp
    · rfl
  · have : inB v.f1 0 1 = true := by
      cases z : inB v.f1 0 1
      · exfalso; apply d; unfold rangeB; rw [z, e]; simp
      · rfl
    exact inB_iff.mp this
  · rw [if_pos e] at h
    unfold symM at h
    by_cases z : symB v.f2 = true
    · unfold symB at z
      have := inB_iff.mp (Bool.and_eq_true_iff.mp z).2
      omega
    · rw [if_neg z] at h; omega
theorem scalT_len {v : S28} (h : valM v = 0) : (scalT v).length ≤ 12 := by
  obtain ⟨hk, h1, h2, h4⟩ := val_ok h
  unfold scalT
  by_cases c1 : v.f0 = 1
  · rw [if_pos c1]; exact itoa_len' (h1 c1)
  rw [if_neg c1]
  by_cases c2 : v.f0 = 2
  · rw [if_pos c2]; unfold boolV; split <;> simp
  rw [if_neg c2]
  by_cases c3 : v.f0 = 3
  · rw [if_pos c3]; simp
  rw [if_neg c3]
  by_cases c4 : v.f0 = 4
  · rw [if_pos c4]; have := h4 c4; rw [Array.length_toList]; exact this
  rw [if_neg c4]
  repeat' split
  all_goals simp
theorem boolText_eq (N : Int) : impl_boolText.f N = some ⟨(boolV N).toArray⟩ := by
  unfold impl_boolText.f boolV
  split <;> rfl
/-- A value that is no pair, shown. -/
theorem implScal_ev (xs : List S70) (v : S28) (out : List UInt8) (h : valM v = 0) (h5 : ¬ v.f0 = 5) (hl : out.length < 120) : Ev (fun k => impl_heap_show.f k xs (n8 out) v.f0 v.f1 v.f2) (n8 (out ++ scalT v)) := by
  obtain ⟨hk, h1, h2, h4⟩ := val_ok h
  have hn := n8_len out
  have hsl := scalT_len h
  unfold scalT at hsl ⊢
  refine Ev.step (fun k => impl_heap_show.f.eq_2 _ _ _ _ _ k) (Ev.ifn (by omega) ?_)
  refine Ev.iff (fun c => ?_) (fun c => ?_)
  · rw [if_pos c] at hsl ⊢
    refine Ev.bind0 (dec_eq (h1 c)) (Ev.ifp (by rw [dig, ba_size]; omega) (Ev.leaf ?_))
    rw [dig, bytesOf_n8, n8_app]
  rw [if_neg c] at hsl ⊢
  refine Ev.iff (fun c => ?_) (fun c => ?_)
  · rw [if_pos c] at hsl ⊢
    refine Ev.bind0 (boolText_eq _) (Ev.ifp (by rw [ba_size]; omega) (Ev.leaf ?_))
    rw [bytesOf_n8, n8_app]
  rw [if_neg c] at hsl ⊢
  refine Ev.iff (fun c => ?_) (fun c => ?_)
  · rw [if_pos c] at hsl ⊢
    exact Ev.ifp (by omega) (Ev.leaf (by rw [← n8_app]; rfl))
  rw [if_neg c] at hsl ⊢
  refine Ev.iff (fun c => ?_) (fun c => ?_)
  · rw [if_pos c] at hsl ⊢
    have hz := h4 c
    exact Ev.ifp (by omega) (Ev.leaf (by rw [← n8_app]; rfl))
  rw [if_neg c] at hsl ⊢
  refine Ev.iff (fun c => ?_) (fun c => ?_)
  · rw [if_pos c]
    exact Ev.ifp (by omega) (Ev.leaf (by rw [← n8_app]; rfl))
  rw [if_neg c] at hsl ⊢
  refine Ev.iff (fun c => ?_) (fun c => ?_)
  · rw [if_pos c]
    exact Ev.ifp (by omega) (Ev.leaf (by rw [← n8_app]; rfl))
  rw [if_neg c] at hsl ⊢
  refine Ev.iff (fun c => ?_) (fun c => ?_)
  · rw [if_pos c]
    exact Ev.ifp (by omega) (Ev.leaf (by rw [← n8_app]; rfl))
  rw [if_neg c] at hsl ⊢
  refine Ev.ifp (by omega) ?_
  exact Ev.ifp (by omega) (Ev.leaf (by rw [← n8_app]; rfl))
theorem good_at {xs : List S70} (h : heapM xs = 0) {n : Nat} {q : Int} (h0 : 0 ≤ q) (hn : q < (n : Int) + 1) (hx : q < xs.length) : goodV (n : Int) (rd_T70 xs q).f0 ∧ goodV (n : Int) (rd_T70 xs q).f1 := by
  obtain ⟨j, hj⟩ : ∃ j : Nat, (j : Int) = q := ⟨q.toNat, Int.toNat_of_nonneg h0⟩
  have hj' : j < xs.length := by omega
  rw [← hj, rdQ_at hj']
  have := heap_good h j hj'
  exact ⟨goodV_mono this.1 (by omega), goodV_mono this.2 (by omega)⟩
def ShowI (xs : List S70) (n : Nat) : Prop := ∀ (v : S28) (out : List UInt8), goodV (n : Int) v → goodV xs.length v → (120 ≤ out.length → Ev (fun k => impl_heap_show.f k xs (n8 out) v.f0 v.f1 v.f2) (n8 out)) ∧ (out.length < 120 → ∃ r, Ev (fun k => impl_heap_show.f k xs (n8 out) v.f0 v.f1 v.f2) (n8 r) ∧ Beg (out ++ valT xs n v) r ∧ r.length ≤ 140 + 16 * n)
def LoopI (xs : List S70) (n : Nat) : Prop := ∀ (v : S28) (out : List UInt8) (b : Bool), goodV (n : Int) v → goodV xs.length v → (b = true → v.f0 = 5) → out.length ≤ 140 + 16 * n → ∃ r, Ev (fun k => impl_heap_show.l0 k (n8 out) b xs v.f0 v.f1 v.f2) (n8 r) ∧ Beg (out ++ (if b = true then inner xs n v.f1 else endT xs n v)) r ∧ (r.length ≤ out.length + 4 ∨ r.length ≤ 136 + 16 * n)
theorem show_long (xs : List S70) (v : S28) (out : List UInt8) (hl : 120 ≤ out.length) : Ev (fun k => impl_heap_show.f k xs (n8 out) v.f0 v.f1 v.f2) (n8 out) :=
  Ev.step (fun k => impl_heap_show.f.eq_2 _ _ _ _ _ k) (Ev.ifp (by rw [n8_len]; omega) (Ev.now _))
/-- Where the list ends, or there is enough. -/
theorem implEnd_ev (xs : List S70) (n : Nat) (v : S28) (out : List UInt8) (b : Bool) (hv : valM v = 0) (hc : v.f0 = 5 → 120 ≤ out.length) (hb : b = true → v.f0 = 5) (hn : n ≤ 4000) (hl : out.length ≤ 140 + 16 * n) : ∃ r, Ev (fun k => impl_heap_show.j1 k (n8 out) b false xs v.f0 v.f1 v.f2) (n8 r) ∧ Beg (out ++ (if b = true then inner xs n v.f1 else endT xs n v)) r ∧ (r.length ≤ out.length + 4 ∨ r.length ≤ 136 + 16 * n) := by
  have h8 := n8_len out
  by_cases c3 : v.f0 = 3
  · have hb' : ¬ b = true := fun h => by have := hb h; omega
    refine ⟨out ++ [41], Ev.step (fun k => impl_heap_show.j1.eq_2 _ _ _ _ _ _ _ k) (Ev.ifn (by simp) (Ev.ifp c3 (Ev.ifp (by omega) (Ev.leaf (by rw [← n8_app]; rfl))))), ?_, .inl (by simp)⟩
    rw [if_neg hb']
    unfold endT
    rw [if_neg (by omega), if_pos c3]
    exact Beg.refl _
  by_cases c5 : v.f0 = 5
  · have h120 := hc c5
    refine ⟨out ++ [41], Ev.step (fun k => impl_heap_show.j1.eq_2 _ _ _ _ _ _ _ k) (Ev.ifn (by simp) (Ev.ifn c3 (Ev.ifp c5 (Ev.ifp (by omega) (Ev.leaf (by rw [← n8_app]; rfl)))))), ?_, .inl (by simp)⟩
    exact Beg.trans ((Beg.refl out).stop h120 _) (Eq.symm ((Beg.refl out).stop h120 [41]))
  · have hb' : ¬ b = true := fun h => c5 (hb h)
    have e3 : n8 out ++ bytesOf (⟨#[32, 46, 32]⟩ : ByteArray) = n8 (out ++ [32, 46, 32]) := by rw [← n8_app]; rfl
    have eT : endT xs n v = [32, 46, 32] ++ scalT v ++ [41] := by unfold endT; rw [if_neg c5, if_neg c3]
    have hs := scalT_len hv
    by_cases hlong : 120 ≤ (out ++ [32, 46, 32]).length
    · have hz : (out ++ [32, 46, 32]).length = out.length + 3 := by simp
      refine ⟨out ++ [32, 46, 32] ++ [41], Ev.step (fun k => impl_heap_show.j1.eq_2 _ _ _ _ _ _ _ k) (Ev.ifn (by simp) (Ev.ifn c3 (Ev.ifn c5 (Ev.ifp (by omega) ?_)))), ?_, .inl (by simp)⟩
      · rw [e3]
        exact Ev.bind (show_long xs v _ hlong) (Ev.ifp (by rw [n8_len]; omega) (Ev.leaf (by rw [← n8_app (out ++ [32, 46, 32])]; rfl)))
      · rw [if_neg hb', eT, ← List.append_assoc, ← List.append_assoc, List.append_assoc]
        exact Beg.trans ((Beg.refl _).stop hlong _) (Eq.symm ((Beg.refl _).stop hlong [41]))
    · have hz : (out ++ [32, 46, 32]).length = out.length + 3 := by simp
      refine ⟨out ++ [32, 46, 32] ++ scalT v ++ [41], Ev.step (fun k => impl_heap_show.j1.eq_2 _ _ _ _ _ _ _ k) (Ev.ifn (by simp) (Ev.ifn c3 (Ev.ifn c5 (Ev.ifp (by omega) ?_)))), ?_, .inr (by simp; omega)⟩
      · rw [e3]
        exact Ev.bind (implScal_ev xs v _ hv c5 (by omega)) (Ev.ifp (by rw [n8_len, List.length_append]; omega) (Ev.leaf (by rw [← n8_app (out ++ [32, 46, 32] ++ scalT v)]; rfl)))
      · rw [if_neg hb', eT]
        exact Beg.of (by simp)
theorem implShow_all (xs : List S70) (hh : heapM xs = 0) : ∀ n : Nat, n ≤ 4000 → ShowI xs n ∧ LoopI xs n
  | 0, hn => by
    have nop : ∀ v : S28, goodV ((0 : Nat) : Int) v → ¬ v.f0 = 5 := fun v hv h => by have := goodV_pair hv h; omega
    refine ⟨fun v out hv _ => ⟨fun h => show_long xs v out h, fun h => ⟨out ++ scalT v, implScal_ev xs v out hv.1 (nop v hv) h, ?_, ?_⟩⟩, fun v out b hv _ hb hl => ?_⟩
    · unfold valT; rw [if_neg (nop v hv)]; exact Beg.refl _
    · have := scalT_len hv.1; simp; omega
    · have h5 := nop v hv
      obtain ⟨r, hr, hB⟩ := implEnd_ev xs 0 v out b hv.1 (fun h => absurd h h5) hb (by omega) hl
      exact ⟨r, Ev.step (fun k => impl_heap_show.l0.eq_2 _ _ _ _ _ _ k) (Ev.ifn h5 hr), hB⟩
  | n + 1, hn => by
    obtain ⟨hS, hL⟩ := implShow_all xs hh n (by omega)
    have hx := heap_len hh
    have hL' : LoopI xs (n + 1) := by
      intro v out b hv hvx hb hl
      have h8 := n8_len out
      by_cases c5 : v.f0 = 5
      · by_cases c : out.length < 120
        · obtain ⟨g0, g1⟩ := goodV_pair hv c5
          obtain ⟨_, g2⟩ := goodV_pair hvx c5
          obtain ⟨hg0, hg1⟩ := good_at hh g0 (n := n) (by omega) g2
          have hx0 : goodV xs.length (rd_T70 xs v.f1).f0 := (good_at hh g0 (n := xs.length) (by omega) g2).1
          have hx1 : goodV xs.length (rd_T70 xs v.f1).f1 := (good_at hh g0 (n := xs.length) (by omega) g2).2
          -- the head, with what stands before it
          have step : ∀ o : List UInt8, o.length ≤ 120 → ∃ r, Ev (fun k => impl_heap_show.f k xs (n8 o) (rd_T70 xs v.f1).f0.f0 (rd_T70 xs v.f1).f0.f1 (rd_T70 xs v.f1).f0.f2) (n8 r) ∧ Beg (o ++ valT xs n (rd_T70 xs v.f1).f0) r ∧ r.length ≤ 140 + 16 * n := by
            intro o ho
            by_cases z : 120 ≤ o.length
            · exact ⟨o, show_long xs _ o z, (Beg.refl o).stop z _, by omega⟩
            · exact (hS _ o hg0 hx0).2 (by omega)
          cases b with
          | true =>
            obtain ⟨r1, e1, b1, l1⟩ := step out (by omega)
            obtain ⟨r2, e2, b2, l2⟩ := hL _ r1 false hg1 hx1 (by simp) l1
            refine ⟨r2, Ev.step (fun k => impl_heap_show.l0.eq_2 _ _ _ _ _ _ k) (Ev.ifp c5 ?_), ?_, by omega⟩
            · rw [show (decide (((n8 out).length : Int) < 120)) = true from decide_eq_true (by omega)]
              refine Ev.step (fun k => impl_heap_show.j1.eq_2 _ _ _ _ _ _ _ k) (Ev.ifp rfl (Ev.ifp rfl (Ev.ifp g0 (Ev.ifp g2 (Ev.bind e1 e2)))))
            · rw [if_pos rfl, inner_succ, ← List.append_assoc]
              exact Beg.trans (b1.app _) (by simpa using b2)
          | false =>
            have ho : (out ++ [32]).length = out.length + 1 := by simp
            obtain ⟨r1, e1, b1, l1⟩ := step (out ++ [32]) (by omega)
            obtain ⟨r2, e2, b2, l2⟩ := hL _ r1 false hg1 hx1 (by simp) l1
            refine ⟨r2, Ev.step (fun k => impl_heap_show.l0.eq_2 _ _ _ _ _ _ k) (Ev.ifp c5 ?_), ?_, by omega⟩
            · rw [show (decide (((n8 out).length : Int) < 120)) = true from decide_eq_true (by omega)]
              refine Ev.step (fun k => impl_heap_show.j1.eq_2 _ _ _ _ _ _ _ k) (Ev.ifp rfl (Ev.ifn (by simp) (Ev.ifp (by omega) (Ev.ifp g0 (Ev.ifp g2 ?_)))))
              rw [show n8 out ++ [32] = n8 (out ++ [32]) from by rw [← n8_app]; rfl]
              exact Ev.bind e1 e2
            · rw [if_neg (by simp)]
              unfold endT
              rw [if_pos c5, inner_succ, show out ++ 32 :: (valT xs n (rd_T70 xs v.f1).f0 ++ endT xs n (rd_T70 xs v.f1).f1) = (out ++ [32] ++ valT xs n (rd_T70 xs v.f1).f0) ++ endT xs n (rd_T70 xs v.f1).f1 from by simp]
              exact Beg.trans (b1.app _) (by simpa using b2)
        · obtain ⟨r, hr, hB⟩ := implEnd_ev xs (n + 1) v out b hv.1 (fun _ => by omega) hb (by omega) hl
          refine ⟨r, Ev.step (fun k => impl_heap_show.l0.eq_2 _ _ _ _ _ _ k) (Ev.ifp c5 ?_), hB⟩
          rw [show (decide (((n8 out).length : Int) < 120)) = false from decide_eq_false (by omega)]
          exact hr
      · obtain ⟨r, hr, hB⟩ := implEnd_ev xs (n + 1) v out b hv.1 (fun h => absurd h c5) hb (by omega) hl
        exact ⟨r, Ev.step (fun k => impl_heap_show.l0.eq_2 _ _ _ _ _ _ k) (Ev.ifn c5 hr), hB⟩
    refine ⟨fun v out hv hvx => ⟨fun h => show_long xs v out h, fun h => ?_⟩, hL'⟩
    have h8 := n8_len out
    by_cases c5 : v.f0 = 5
    · have ho : (out ++ [40]).length = out.length + 1 := by simp
      obtain ⟨r, hr, hB, hl⟩ := hL' v (out ++ [40]) true hv hvx (fun _ => c5) (by omega)
      refine ⟨r, Ev.step (fun k => impl_heap_show.f.eq_2 _ _ _ _ _ k) (Ev.ifn (by omega) (Ev.ifn (by omega) (Ev.ifn (by omega) (Ev.ifn (by omega) (Ev.ifn (by omega) (Ev.ifn (by omega) (Ev.ifn (by omega) (Ev.ifn (by omega) (Ev.ifn (by omega) (Ev.ifp (by omega) ?_)))))))))), ?_, by omega⟩
      · rw [show n8 out ++ [40] = n8 (out ++ [40]) from by rw [← n8_app]; rfl]
        exact hr
      · unfold valT
        rw [if_pos c5, show out ++ 40 :: inner xs (n + 1) v.f1 = out ++ [40] ++ inner xs (n + 1) v.f1 from by simp]
        simpa using hB
    · refine ⟨out ++ scalT v, implScal_ev xs v out hv.1 c5 h, ?_, ?_⟩
      · unfold valT; rw [if_neg c5]; exact Beg.refl _
      · have := scalT_len hv.1; simp; omega
/-! ### The reference's text -/
theorem lit_app (out l : List UInt8) (s : ByteArray) (h : s = ⟨l.toArray⟩) : (⟨out.toArray⟩ : ByteArray) ++ s = ⟨(out ++ l).toArray⟩ := by subst h; exact ba_append _ _
theorem specScal_ev (xs : List S70) (v : S28) (out : List UInt8) (h : valM v = 0) (h5 : ¬ v.f0 = 5) (hl : out.length ≤ 120) : Ev (fun k => spec_l5Show.f k ⟨out.toArray⟩ xs v.f0 v.f1 v.f2) ⟨(out ++ scalT v).toArray⟩ := by
  obtain ⟨hk, h1, h2, h4⟩ := val_ok h
  have hn := ba_size out
  have hsl := scalT_len h
  unfold scalT at hsl ⊢
  refine Ev.step (fun k => spec_l5Show.f.eq_2 _ _ _ _ _ k) (Ev.ifn (by omega) ?_)
  refine Ev.iff (fun c => ?_) (fun c => ?_)
  · rw [if_pos c] at hsl ⊢
    refine Ev.bind (digits_ev (h1 c)) (Ev.ifp (by rw [dig, ba_size, ba_size]; omega) (Ev.leaf ?_))
    exact lit_app _ _ _ rfl
  rw [if_neg c] at hsl ⊢
  refine Ev.iff (fun c => ?_) (fun c => ?_)
  · rw [if_pos c] at hsl ⊢
    have hb := h2 c
    have hrd : rdOf ByteArray.empty ([(⟨#[35, 102]⟩ : ByteArray), (⟨#[35, 116]⟩ : ByteArray)] : List ByteArray) v.f1 = ⟨(boolV v.f1).toArray⟩ := by
      unfold boolV
      by_cases z : v.f1 = 1
      · rw [if_pos z, z]; rfl
      · have z0 : v.f1 = 0 := by omega
        rw [if_neg z, z0]; rfl
    refine Ev.bind0 rfl (Ev.ifp hb.1 (Ev.ifp (by simp; omega) (Ev.ifp (by rw [hrd, ba_size, ba_size]; omega) (Ev.leaf ?_))))
    exact lit_app _ _ _ hrd
  rw [if_neg c] at hsl ⊢
  refine Ev.iff (fun c => ?_) (fun c => ?_)
  · rw [if_pos c] at hsl ⊢
    exact Ev.ifp (by omega) (Ev.leaf (lit_app _ _ _ rfl))
  rw [if_neg c] at hsl ⊢
  refine Ev.iff (fun c => ?_) (fun c => ?_)
  · rw [if_pos c] at hsl ⊢
    have hz := h4 c
    exact Ev.ifp (by omega) (Ev.leaf (lit_app _ _ _ (ba_eta _).symm))
  rw [if_neg c] at hsl ⊢
  refine Ev.iff (fun c => ?_) (fun c => ?_)
  · rw [if_pos c]
    have e : wrap64 (v.f0 - 6) = 0 := by rw [c]; unfold wrap64; omega
    rw [e]
    exact Ev.bind0 rfl (Ev.ifp (by simp) (Ev.ifp (by simp) (Ev.ifp (by rw [show rdOf ByteArray.empty ([(⟨#[35, 112, 114, 111, 99]⟩ : ByteArray), (⟨#[35, 99, 111, 110, 116]⟩ : ByteArray), (⟨#[35, 112, 114, 105, 109]⟩ : ByteArray), (⟨#[35, 110, 111, 110, 101]⟩ : ByteArray)] : List ByteArray) 0 = ⟨[35, 112, 114, 111, 99].toArray⟩ from rfl, ba_size, ba_size]; simp; omega) (Ev.leaf (lit_app _ _ _ rfl)))))
  rw [if_neg c] at hsl ⊢
  refine Ev.iff (fun c => ?_) (fun c => ?_)
  · rw [if_pos c]
    have e : wrap64 (v.f0 - 6) = 1 := by rw [c]; unfold wrap64; omega
    rw [e]
    exact Ev.bind0 rfl (Ev.ifp (by simp) (Ev.ifp (by simp) (Ev.ifp (by rw [show rdOf ByteArray.empty ([(⟨#[35, 112, 114, 111, 99]⟩ : ByteArray), (⟨#[35, 99, 111, 110, 116]⟩ : ByteArray), (⟨#[35, 112, 114, 105, 109]⟩ : ByteArray), (⟨#[35, 110, 111, 110, 101]⟩ : ByteArray)] : List ByteArray) 1 = ⟨[35, 99, 111, 110, 116].toArray⟩ from rfl, ba_size, ba_size]; simp; omega) (Ev.leaf (lit_app _ _ _ rfl)))))
  rw [if_neg c] at hsl ⊢
  refine Ev.iff (fun c => ?_) (fun c => ?_)
  · rw [if_pos c]
    have e : wrap64 (v.f0 - 6) = 2 := by rw [c]; unfold wrap64; omega
    rw [e]
    exact Ev.bind0 rfl (Ev.ifp (by simp) (Ev.ifp (by simp) (Ev.ifp (by rw [show rdOf ByteArray.empty ([(⟨#[35, 112, 114, 111, 99]⟩ : ByteArray), (⟨#[35, 99, 111, 110, 116]⟩ : ByteArray), (⟨#[35, 112, 114, 105, 109]⟩ : ByteArray), (⟨#[35, 110, 111, 110, 101]⟩ : ByteArray)] : List ByteArray) 2 = ⟨[35, 112, 114, 105, 109].toArray⟩ from rfl, ba_size, ba_size]; simp; omega) (Ev.leaf (lit_app _ _ _ rfl)))))
  rw [if_neg c] at hsl ⊢
  refine Ev.ifp (by omega) ?_
  have e : wrap64 (v.f0 - 6) = 3 := by rw [show v.f0 = 9 from by omega]; unfold wrap64; omega
  rw [e]
  exact Ev.bind0 rfl (Ev.ifp (by simp) (Ev.ifp (by simp) (Ev.ifp (by rw [show rdOf ByteArray.empty ([(⟨#[35, 112, 114, 111, 99]⟩ : ByteArray), (⟨#[35, 99, 111, 110, 116]⟩ : ByteArray), (⟨#[35, 112, 114, 105, 109]⟩ : ByteArray), (⟨#[35, 110, 111, 110, 101]⟩ : ByteArray)] : List ByteArray) 3 = ⟨[35, 110, 111, 110, 101].toArray⟩ from rfl, ba_size, ba_size]; simp; omega) (Ev.leaf (lit_app _ _ _ rfl)))))
def ShowS (xs : List S70) (n : Nat) : Prop := ∀ (v : S28) (out : List UInt8), goodV (n : Int) v → goodV xs.length v → out.length ≤ 120 → ∃ r, Ev (fun k => spec_l5Show.f k ⟨out.toArray⟩ xs v.f0 v.f1 v.f2) ⟨r.toArray⟩ ∧ Beg (out ++ valT xs n v) r ∧ r.length ≤ 141 + 16 * n
def LoopS (xs : List S70) (n : Nat) : Prop := ∀ (q : Int) (out : List UInt8), 0 ≤ q → q < n → q < xs.length → out.length ≤ 120 → ∃ r, Ev (fun k => spec_l5Show.l0 k ⟨out.toArray⟩ xs q) ⟨r.toArray⟩ ∧ Beg (out ++ inner xs n q) r ∧ r.length ≤ 134 + 16 * n
theorem showS_long (xs : List S70) (v : S28) (out : List UInt8) (hl : 120 < out.length) : Ev (fun k => spec_l5Show.f k ⟨out.toArray⟩ xs v.f0 v.f1 v.f2) ⟨out.toArray⟩ :=
  Ev.step (fun k => spec_l5Show.f.eq_2 _ _ _ _ _ k) (Ev.ifp (by rw [ba_size]; omega) (Ev.now _))
theorem specShow_all (xs : List S70) (hh : heapM xs = 0) : ∀ n : Nat, n ≤ 4000 → ShowS xs n ∧ LoopS xs n
  | 0, hn => by
    have nop : ∀ v : S28, goodV ((0 : Nat) : Int) v → ¬ v.f0 = 5 := fun v hv h => by have := goodV_pair hv h; omega
    refine ⟨fun v out hv _ h => ⟨out ++ scalT v, specScal_ev xs v out hv.1 (nop v hv) h, ?_, ?_⟩, fun q out h0 h1 => by omega⟩
    · unfold valT; rw [if_neg (nop v hv)]; exact Beg.refl _
    · have := scalT_len hv.1; simp; omega
  | n + 1, hn => by
    obtain ⟨hS, hL⟩ := specShow_all xs hh n (by omega)
    have hx := heap_len hh
    have hL' : LoopS xs (n + 1) := by
      intro q out h0 h1 hq hl
      have hn8 := ba_size out
      obtain ⟨hg0, hg1⟩ := good_at hh h0 (n := n) (by omega) hq
      obtain ⟨hx0, hx1⟩ := good_at hh h0 (n := xs.length) (by omega) hq
      obtain ⟨r1, e1, b1, l1⟩ := hS _ out hg0 hx0 hl
      have hr1 := ba_size r1
      have hv1 := hg1.1
      by_cases c3 : (rd_T70 xs q).f1.f0 = 3
      · refine ⟨r1 ++ [41], Ev.step (fun k => spec_l5Show.l0.eq_2 _ _ _ k) (Ev.ifp (by omega) (Ev.ifp h0 (Ev.ifp hq (Ev.bind e1 (Ev.ifp c3 (Ev.ifp (by omega) (Ev.leaf (lit_app _ _ _ rfl)))))))), ?_, by simp; omega⟩
        rw [inner_succ, ← List.append_assoc]
        have eT : endT xs n (rd_T70 xs q).f1 = [41] := by unfold endT; rw [if_neg (by omega), if_pos c3]
        rw [eT]
        exact b1.app _
      by_cases c5 : (rd_T70 xs q).f1.f0 = 5
      · obtain ⟨g0, g1⟩ := goodV_pair hg1 c5
        obtain ⟨_, g2⟩ := goodV_pair hx1 c5
        have eT : endT xs n (rd_T70 xs q).f1 = 32 :: inner xs n (rd_T70 xs q).f1.f1 := by unfold endT; rw [if_pos c5]
        have hz : (r1 ++ [32]).length = r1.length + 1 := by simp
        have hz8 := ba_size (r1 ++ [32])
        by_cases hlong : 120 < (r1 ++ [32]).length
        · refine ⟨r1 ++ [32], Ev.step (fun k => spec_l5Show.l0.eq_2 _ _ _ k) (Ev.ifp (by omega) (Ev.ifp h0 (Ev.ifp hq (Ev.bind e1 (Ev.ifn c3 (Ev.ifp c5 (Ev.ifp (by omega) ?_))))))), ?_, by omega⟩
          · rw [lit_app r1 [32] _ rfl]
            exact Ev.step (fun k => spec_l5Show.l0.eq_2 _ _ _ k) (Ev.ifn (by omega) (Ev.now _))
          · rw [inner_succ, ← List.append_assoc, eT, show (out ++ valT xs n (rd_T70 xs q).f0) ++ 32 :: inner xs n (rd_T70 xs q).f1.f1 = (out ++ valT xs n (rd_T70 xs q).f0 ++ [32]) ++ inner xs n (rd_T70 xs q).f1.f1 from by simp]
            exact (b1.app [32]).stop (by omega) _
        · obtain ⟨r2, e2, b2, l2⟩ := hL _ (r1 ++ [32]) g0 g1 g2 (by omega)
          refine ⟨r2, Ev.step (fun k => spec_l5Show.l0.eq_2 _ _ _ k) (Ev.ifp (by omega) (Ev.ifp h0 (Ev.ifp hq (Ev.bind e1 (Ev.ifn c3 (Ev.ifp c5 (Ev.ifp (by omega) ?_))))))), ?_, by omega⟩
          · rw [lit_app r1 [32] _ rfl]
            exact e2
          · rw [inner_succ, ← List.append_assoc, eT, show (out ++ valT xs n (rd_T70 xs q).f0) ++ 32 :: inner xs n (rd_T70 xs q).f1.f1 = (out ++ valT xs n (rd_T70 xs q).f0 ++ [32]) ++ inner xs n (rd_T70 xs q).f1.f1 from by simp]
            exact Beg.trans ((b1.app [32]).app _) b2
      · have eT : endT xs n (rd_T70 xs q).f1 = [32, 46, 32] ++ scalT (rd_T70 xs q).f1 ++ [41] := by unfold endT; rw [if_neg c5, if_neg c3]
        have hz : (r1 ++ [32, 46, 32]).length = r1.length + 3 := by simp
        have hz8 := ba_size (r1 ++ [32, 46, 32])
        have hs := scalT_len hv1
        by_cases hlong : 120 < (r1 ++ [32, 46, 32]).length
        · refine ⟨r1 ++ [32, 46, 32] ++ [41], Ev.step (fun k => spec_l5Show.l0.eq_2 _ _ _ k) (Ev.ifp (by omega) (Ev.ifp h0 (Ev.ifp hq (Ev.bind e1 (Ev.ifn c3 (Ev.ifn c5 (Ev.ifp (by omega) ?_))))))), ?_, by simp; omega⟩
          · rw [lit_app r1 [32, 46, 32] _ rfl]
            exact Ev.bind (showS_long xs _ _ hlong) (Ev.ifp (by omega) (Ev.leaf (lit_app _ _ _ rfl)))
          · rw [inner_succ, ← List.append_assoc, eT, ← List.append_assoc, ← List.append_assoc, List.append_assoc]
            exact Beg.trans ((b1.app [32, 46, 32]).stop (by omega) _) (Eq.symm ((Beg.refl _).stop (by omega) [41]))
        · have hy8 := ba_size (r1 ++ [32, 46, 32] ++ scalT (rd_T70 xs q).f1)
          refine ⟨r1 ++ [32, 46, 32] ++ scalT (rd_T70 xs q).f1 ++ [41], Ev.step (fun k => spec_l5Show.l0.eq_2 _ _ _ k) (Ev.ifp (by omega) (Ev.ifp h0 (Ev.ifp hq (Ev.bind e1 (Ev.ifn c3 (Ev.ifn c5 (Ev.ifp (by omega) ?_))))))), ?_, by simp; omega⟩
          · rw [lit_app r1 [32, 46, 32] _ rfl]
            exact Ev.bind (specScal_ev xs _ _ hv1 c5 (by omega)) (Ev.ifp (by rw [hy8, List.length_append]; omega) (Ev.leaf (lit_app _ _ _ rfl)))
          · rw [inner_succ, ← List.append_assoc, eT]
            refine Beg.trans (b1.app _) (Beg.of (by simp))
    refine ⟨fun v out hv hvx h => ?_, hL'⟩
    have hn8 := ba_size out
    by_cases c5 : v.f0 = 5
    · obtain ⟨g0, g1⟩ := goodV_pair hv c5
      obtain ⟨_, g2⟩ := goodV_pair hvx c5
      have ho : (out ++ [40]).length = out.length + 1 := by simp
      have ho8 := ba_size (out ++ [40])
      have eV : out ++ valT xs (n + 1) v = out ++ [40] ++ inner xs (n + 1) v.f1 := by unfold valT; rw [if_pos c5]; simp
      have head : ∀ r : List UInt8, Ev (fun k => spec_l5Show.l0 k ⟨(out ++ [40]).toArray⟩ xs v.f1) ⟨r.toArray⟩ → Ev (fun k => spec_l5Show.f k ⟨out.toArray⟩ xs v.f0 v.f1 v.f2) ⟨r.toArray⟩ := fun r hr => by
        refine Ev.step (fun k => spec_l5Show.f.eq_2 _ _ _ _ _ k) (Ev.ifn (by omega) (Ev.ifn (by omega) (Ev.ifn (by omega) (Ev.ifn (by omega) (Ev.ifn (by omega) (Ev.ifn (by omega) (Ev.ifn (by omega) (Ev.ifn (by omega) (Ev.ifn (by omega) (Ev.ifp (by omega) ?_))))))))))
        rw [lit_app out [40] _ rfl]
        exact hr
      by_cases hlong : 120 < (out ++ [40]).length
      · refine ⟨out ++ [40], head _ (Ev.step (fun k => spec_l5Show.l0.eq_2 _ _ _ k) (Ev.ifn (by omega) (Ev.now _))), ?_, by omega⟩
        rw [eV]
        exact (Beg.refl _).stop (by omega) _
      · obtain ⟨r, hr, hB, hl⟩ := hL' v.f1 (out ++ [40]) g0 g1 g2 (by omega)
        exact ⟨r, head r hr, by rw [eV]; exact hB, by omega⟩
    · refine ⟨out ++ scalT v, specScal_ev xs v out hv.1 c5 h, ?_, ?_⟩
      · unfold valT; rw [if_neg c5]; exact Beg.refl _
      · have := scalT_len hv.1; simp; omega
/-! ### Both, as one -/
theorem strOf_n8 (l : List UInt8) : strOfNums (n8 l) = ⟨l.toArray⟩ := by
  unfold strOfNums n8
  rw [List.map_map]
  congr 2
  conv => rhs; rw [← List.map_id l]
  apply List.map_congr_left
  intro b _
  simp
def showT (xs : List S70) (v : S28) : ByteArray := ⟨((valT xs xs.length v).take 120).toArray⟩
theorem showT_size (xs : List S70) (v : S28) : (showT xs v).size ≤ 120 := by
  unfold showT; rw [ba_size, List.length_take]; omega
theorem implShown_ev (xs : List S70) (v : S28) (hh : heapM xs = 0) (hv : goodV xs.length v) : Ev (fun k => impl_heap_shown.f k xs v.f0 v.f1 v.f2) (showT xs v) := by
  have hx := heap_len hh
  obtain ⟨r, hr, hB, hl⟩ := ((implShow_all xs hh xs.length hx).1 v [] hv hv).2 (by simp)
  have h8 := n8_len r
  have hB' : r.take 120 = (valT xs xs.length v).take 120 := by unfold Beg at hB; simpa using hB
  refine Ev.congr (fun k => impl_heap_shown.f.eq_1 k _ _ _ _) (Ev.bind hr ?_)
  have e : (n8 r).take ((mn ((n8 r).length : Int) 120) : Int).toNat = n8 (r.take 120) := by
    rw [h8]
    unfold n8
    rw [List.map_take]
    rcases Int.le_total (r.length : Int) 120 with c | c
    · rw [show mn (r.length : Int) 120 = (r.length : Int) from by simp only [mn]; split <;> omega]
      rw [List.take_of_length_le (by simp), List.take_of_length_le (by simp; omega)]
    · rw [show mn (r.length : Int) 120 = 120 from by simp only [mn]; split <;> omega]
      rfl
  have m0 : 0 ≤ mn ((n8 r).length : Int) 120 := by simp only [mn]; split <;> omega
  have m1 : mn ((n8 r).length : Int) 120 ≤ ((n8 r).length : Int) := by simp only [mn]; split <;> omega
  refine Ev.ifp m0 (Ev.ifp m1 (Ev.leaf ?_))
  rw [e, strOf_n8, hB']
  rfl
theorem l5Text_ev (xs : List S70) (v : S28) (hh : heapM xs = 0) (hv : goodV xs.length v) : Ev (fun k => spec_l5Text.f k xs v.f0 v.f1 v.f2) (showT xs v) := by
  have hx := heap_len hh
  obtain ⟨r, hr, hB, hl⟩ := (specShow_all xs hh xs.length hx).1 v [] hv hv (by simp)
  have h8 := ba_size r
  have hB' : r.take 120 = (valT xs xs.length v).take 120 := by unfold Beg at hB; simpa using hB
  refine Ev.congr (fun k => spec_l5Text.f.eq_1 k _ _ _ _) (Ev.bind hr ?_)
  refine Ev.iff (fun c => Ev.ifp (by omega) (Ev.ifp (by omega) (Ev.leaf ?_))) (fun c => Ev.leaf ?_)
  · unfold showT
    rw [← hB', ByteArray.ext_iff]
    simp [ByteArray.data_extract]
  · unfold showT
    rw [← hB', List.take_of_length_le (by omega)]
def showM (xs : List S70) (v : S28) : Int × ByteArray := if askedM xs v = 0 then (0, showT xs v) else (askedM xs v, ⟨#[]⟩)
theorem implShowValue_ev (xs : List S70) (v : S28) (hx : okP xs) (hv : okS v.f2) : Ev (fun k => impl_ShowValue.f k xs v.f0 v.f1 v.f2) (showM xs v) := by
  refine Ev.congr (fun k => impl_ShowValue.f.eq_1 k _ _ _ _) (Ev.bind (heapFault1_ev xs v hx hv) (Ev.iff (fun c => ?_) (fun c => Ev.leaf (by unfold showM; rw [if_neg c]))))
  obtain ⟨h1, h2⟩ := asked_good c
  exact Ev.bind (implShown_ev xs v h1 h2) (Ev.leaf (by unfold showM; rw [if_pos c]))
theorem specShowValue_ev (xs : List S70) (v : S28) (hx : okP xs) (hv : okS v.f2) : Ev (fun k => spec_ShowValue.f k xs v.f0 v.f1 v.f2) (showM xs v) := by
  refine Ev.congr (fun k => spec_ShowValue.f.eq_1 k _ _ _ _) (Ev.bind (l5Asked_ev xs v hx hv) (Ev.iff (fun c => ?_) (fun c => Ev.leaf (by unfold showM; rw [if_neg c]))))
  obtain ⟨h1, h2⟩ := asked_good c
  exact Ev.bind (l5Text_ev xs v h1 h2) (Ev.leaf (by unfold showM; rw [if_pos c]))
end Go.Proofs.YthlgmdbfhkcghaaDoor.S
