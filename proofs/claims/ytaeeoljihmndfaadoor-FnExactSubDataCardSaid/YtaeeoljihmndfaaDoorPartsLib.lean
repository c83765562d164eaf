/- Proved: what the program's and the reference's parts of data come to. Conditions: those in each head. -/
import Derived.Test.YtaeeoljihmndfaaDoorDataFLib
import Derived.Test.YtaeeoljihmndfaaDoorB5
import Derived.Test.YtaeeoljihmndfaaDoorB8
namespace Go.Proofs.YtaeeoljihmndfaaDoor.B
open Go.RowKit Go.Proofs.YtaeeoljihmndfaaDoorW.PrintWords Go.Proofs.YtaeeoljihmndfaaDoorW.PrintLast Go.Proofs.YtaeeoljihmndfaaDoor.PL
set_option linter.unusedSimpArgs false

/-- The fault of data and of a place. -/
def placeM (xs : List S99) (a : Int) : Int := if dataM xs = 0 then (if inB a 0 ((xs.length : Int) - 1) = true then 0 else 3) else dataM xs
theorem placeFault_ev (xs : List S99) (a : Int) (hx : okD xs) (hl : xs.length ≤ 1048576) : Ev (fun k => impl_placeFault.f k xs a) (placeM xs a) := by
  refine Ev.congr (fun k => impl_placeFault.f.eq_1 k _ _) (Ev.bind (implData_ev xs hx) (Ev.iff (fun c => ?_) (fun c => Ev.leaf (by unfold placeM; rw [if_neg c]))))
  rw [wrap_id (by omega) (by omega)]
  refine Ev.bind0 (in_eq _ _ _) (Ev.iff (fun d => Ev.leaf (by unfold placeM; rw [if_pos c, if_pos d])) (fun d => Ev.leaf (by unfold placeM; rw [if_pos c, if_neg d])))
theorem l3Asked_ev (xs : List S99) (a : Int) (hx : okD xs) (hl : xs.length ≤ 1048576) : Ev (fun k => spec_l3Asked.f k xs a) (placeM xs a) := by
  refine Ev.congr (fun k => spec_l3Asked.f.eq_1 k _ _) (Ev.bind (l3Fault_ev xs hx) (Ev.iff (fun c => ?_) (fun c => Ev.leaf (by unfold placeM; rw [if_neg c]))))
  rw [wrap_id (by omega) (by omega)]
  refine Ev.bind0 (l1In_eq _ _ _) (Ev.iff (fun d => Ev.leaf (by unfold placeM; rw [if_pos c, if_pos d])) (fun d => Ev.leaf (by unfold placeM; rw [if_pos c, if_neg d])))
theorem place_in {xs : List S99} {a : Int} (h : placeM xs a = 0) : dataM xs = 0 ∧ 0 ≤ a ∧ a < xs.length := by
  unfold placeM at h
  split at h
  · rename_i c
    split at h
    · rename_i d
      have := inB_iff.mp d
      exact ⟨c, by omega, by omega⟩
    · omega
  · rename_i c
    exact absurd h c
theorem data_len {xs : List S99} (h : dataM xs = 0) : 1 ≤ xs.length ∧ xs.length ≤ 80 := by
  unfold dataM at h
  split at h
  · rename_i c
    have := inB_iff.mp c
    omega
  · omega
/-- The places of the parts of a datum, from a place on. -/
def partsU (xs : List S99) (a : Int) : Nat → Nat → List Int
  | 0, _ => []
  | d + 1, i => (if parD xs i = a then [(i : Int)] else []) ++ partsU xs a d (i + 1)
theorem partsU_length (xs : List S99) (a : Int) : ∀ d i, (partsU xs a d i).length ≤ d
  | 0, _ => by simp [partsU]
  | d + 1, i => by
    have := partsU_length xs a d (i + 1)
    simp only [partsU, List.length_append]
    split <;> simp <;> omega
def partsM (xs : List S99) (a : Int) : List Int := partsU xs a xs.length 0
end Go.Proofs.YtaeeoljihmndfaaDoor.B
