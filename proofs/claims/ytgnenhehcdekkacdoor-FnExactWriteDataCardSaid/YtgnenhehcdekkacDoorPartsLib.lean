/- Proved: what the program's and the reference's parts of data come to. Conditions: those in each head. -/
import Derived.Test.YtgnenhehcdekkacDoorDataFLib
import Derived.Test.YtgnenhehcdekkacDoorA4
import Derived.Test.YtgnenhehcdekkacDoorA7
namespace Go.Proofs.YtgnenhehcdekkacDoor.A
open Go.RowKit Go.Proofs.YtgnenhehcdekkacDoorW.PrintWords Go.Proofs.YtgnenhehcdekkacDoorW.PrintLast Go.Proofs.YtgnenhehcdekkacDoor.PL
set_option linter.unusedSimpArgs false

/-- The fault of data and of a place. -/
def placeM (xs : List S37) (a : Int) : Int := if dataM xs = 0 then (if inB a 0 ((xs.length : Int) - 1) = true then 0 else 3) else dataM xs
theorem place_in {xs : List S37} {a : Int} (h : placeM xs a = 0) : dataM xs = 0 ∧ 0 ≤ a ∧ a < xs.length := by
  unfold placeM at h
  split at h
  · rename_i c
    split at h
    · rename_i d
      have := inB_iff.mp d
      exact ⟨c, by omega, by omega⟩
    · omega
  · rename_i c
    exact absurd h c
theorem data_len {xs : List S37} (h : dataM xs = 0) : 1 ≤ xs.length ∧ xs.length ≤ 80 := by
  unfold dataM at h
  split at h
  · rename_i c
    have := inB_iff.mp c
    omega
  · omega
/-- The places of the parts of a datum, from a place on. -/
def partsU (xs : List S37) (a : Int) : Nat → Nat → List Int
  | 0, _ => []
  | d + 1, i => (if parD xs i = a then [(i : Int)] else []) ++ partsU xs a d (i + 1)
theorem partsU_length (xs : List S37) (a : Int) : ∀ d i, (partsU xs a d i).length ≤ d
  | 0, _ => by simp [partsU]
  | d + 1, i => by
    have := partsU_length xs a d (i + 1)
    simp only [partsU, List.length_append]
    split <;> simp <;> omega
theorem parts_ev (xs : List S37) (a : Int) (hl : xs.length ≤ 1048576) : ∀ d i acc, i + d = xs.length → acc.length + d ≤ 1048576 → Ev (fun k => impl_parts.l0 k a acc xs (xs.length : Int) (i : Int)) (acc ++ partsU xs a d i)
  | 0, i, acc, hd, ha => by
    have e : i = xs.length := by omega
    subst e
    exact Ev.step (fun k => impl_parts.l0.eq_2 _ _ _ _ _ k) (Ev.ifn (by omega) (Ev.leaf (by simp [partsU])))
  | d + 1, i, acc, hd, ha => by
    have hi : i < xs.length := by omega
    refine Ev.step (fun k => impl_parts.l0.eq_2 _ _ _ _ _ k) (Ev.ifp (by omega) (Ev.ifp (by omega) (Ev.ifp (by omega) (Ev.iff (fun c => Ev.ifp (by omega) ?_) (fun c => ?_)))))
    · rw [wrap_succ hi (by omega)]
      refine Ev.cast (parts_ev xs a hl d (i + 1) _ (by omega) (by simp; omega)) ?_
      simp only [partsU]
      rw [if_pos (show parD xs i = a from c), List.append_assoc]
    · rw [wrap_succ hi (by omega)]
      refine Ev.cast (parts_ev xs a hl d (i + 1) _ (by omega) (by omega)) ?_
      simp only [partsU]
      rw [if_neg (show ¬ parD xs i = a from c), List.nil_append]
theorem l3Parts_ev (xs : List S37) (a : Int) (hl : xs.length ≤ 1048576) : ∀ d i acc, i + d = xs.length → acc.length + d ≤ 1048576 → Ev (fun k => spec_l3Parts.l0 k xs a acc (i : Int)) (acc ++ partsU xs a d i)
  | 0, i, acc, hd, ha => by
    have e : i = xs.length := by omega
    subst e
    exact Ev.step (fun k => spec_l3Parts.l0.eq_2 _ _ _ _ k) (Ev.ifn (by omega) (Ev.leaf (by simp [partsU])))
  | d + 1, i, acc, hd, ha => by
    have hi : i < xs.length := by omega
    refine Ev.step (fun k => spec_l3Parts.l0.eq_2 _ _ _ _ k) (Ev.ifp (by omega) (Ev.ifp (by omega) (Ev.iff (fun c => Ev.ifp (by omega) ?_) (fun c => ?_))))
    · rw [wrap_succ hi (by omega)]
      refine Ev.cast (l3Parts_ev xs a hl d (i + 1) _ (by omega) (by simp; omega)) ?_
      simp only [partsU]
      rw [if_pos (show parD xs i = a from c), List.append_assoc]
    · rw [wrap_succ hi (by omega)]
      refine Ev.cast (l3Parts_ev xs a hl d (i + 1) _ (by omega) (by omega)) ?_
      simp only [partsU]
      rw [if_neg (show ¬ parD xs i = a from c), List.nil_append]
def partsM (xs : List S37) (a : Int) : List Int := partsU xs a xs.length 0
theorem implParts_ev (xs : List S37) (a : Int) (hl : xs.length ≤ 1048576) : Ev (fun k => impl_parts.f k xs a) (partsM xs a) :=
  Ev.congr (fun k => impl_parts.f.eq_1 k _ _) (Ev.cast (parts_ev xs a hl xs.length 0 [] (by omega) (by simp; omega)) (by simp [partsM]))
theorem specParts_ev (xs : List S37) (a : Int) (hl : xs.length ≤ 1048576) : Ev (fun k => spec_l3Parts.f k xs a) (partsM xs a) :=
  Ev.congr (fun k => spec_l3Parts.f.eq_1 k _ _) (Ev.cast (l3Parts_ev xs a hl xs.length 0 [] (by omega) (by simp; omega)) (by simp [partsM]))
end Go.Proofs.YtgnenhehcdekkacDoor.A
