/- Proved: the pure statement behind the law FnExactDefineGlobal: whatever its arguments, the law's plain function answers true. Conditions: the arguments are well formed values of their types. -/
import Derived.Test.YthjfdohcdkpdnaaDoorDefLib
import Derived.Test.YthjfdohcdkpdnaaDoorGlobalLib
import Derived.Test.YthjfdohcdkpdnaaDoorMarkGlobal2Lib
import Derived.Test.YthjfdohcdkpdnaaDoorA12
import Derived.Test.YthjfdohcdkpdnaaDoorA10
import Derived.Test.YthjfdohcdkpdnaaDoorA11
import Derived.Test.YthjfdohcdkpdnaaDoorA8
namespace Go.Proofs.YthjfdohcdkpdnaaDoor.Pure
open Go.RowKit Go.Proofs.YthjfdohcdkpdnaaDoor.A Go.Proofs.YthjfdohcdkpdnaaDoorW.PrintWords Go.Proofs.YthjfdohcdkpdnaaDoorW.PrintLast Go.Proofs.YthjfdohcdkpdnaaDoor.PL

theorem specDefineG_ev (xs : List S98) (nm : ByteArray) (v : S55) (hx : okG xs) (hn : nm.size ≤ 9223372036854775807) (hv : v.f2.size ≤ 9223372036854775807) (hl : xs.length ≤ 1048576) : Ev (fun k => spec_DefineGlobal.f k xs nm v.f0 v.f1 v.f2) (turnM xs nm v false) := by
  refine Ev.congr (fun k => spec_DefineGlobal.f.eq_1 k _ _ _ _ _) (Ev.bind (l7Asked_ev xs nm hx hn) (Ev.iff (fun c => Ev.bind (l5Fault_ev _ _ _ hv) (Ev.iff (fun d => Ev.bind (l7Put_ev xs nm v hl) (Ev.leaf ?_)) (fun d => Ev.leaf ?_))) (fun c => Ev.leaf ?_)))
  · unfold turnM; rw [if_pos c, if_pos d, if_neg (by simp)]
  · unfold turnM; rw [if_pos c, if_neg d]
  · unfold turnM; rw [if_neg c]
theorem okGdDefine_conv (l0 : List S91) (h : ∀ y ∈ l0, ok91 y) : okG (l0.map convG) := by
  intro x hx
  obtain ⟨y, hy, rfl⟩ := List.mem_map.mp hx
  exact okG_sizes (h y hy)
set_option maxHeartbeats 4000000 in
theorem FnExactDefineGlobal : ∀ (l0 : List S91) (a1 : ByteArray) (y2 : S47), (l0.length ≤ maxLen ∧ ∀ y ∈ l0, ok91 y) → (a1.size ≤ maxLen) → (ok47 y2) → ∃ k, laws_FnExactDefineGlobal.f k l0 a1 y2.f0 y2.f1 y2.f2 = some true := by
  intro l0 a1 y2 h h1 h2
  have hs := h2.2.2
  have hs' := hs
  unfold maxLen at h1 hs'
  obtain ⟨r, hr, hr1, hr2⟩ := szGlobalS_ev l0 h.2 h.1 1048576 (by omega) (by omega)
  refine Ev.rounds (r := true) (Ev.congr (fun k => laws_FnExactDefineGlobal.f.eq_1 k _ _ _ _ _) (Ev.iff (fun _ => Ev.now _) (fun _ => ?_)))
  refine Ev.step (fun k => laws_FnExactDefineGlobal.j0.eq_2 _ _ _ _ _ k) (Ev.bind hr (Ev.iff (fun _ => Ev.now _) (fun c => ?_)))
  obtain ⟨q, hq, _, _⟩ := szGValue_eq y2.f0 y2.f1 y2.f2 r hs (by omega) hr1
  have t := toGlobalS_ev l0 (by omega)
  have hl : (l0.map convG).length ≤ 1048576 := by rw [List.length_map]; omega
  have ho := okGdDefine_conv l0 h.2
  have hsp := specDefineG_ev (l0.map convG) a1 (convGV y2) ho h1 hs' hl
  have ht := turn_ev (l0.map convG) a1 (convGV y2) false ho h1 hs'
  have hlen := turnM_len2 (l0.map convG) a1 (convGV y2) false
  generalize turnM (l0.map convG) a1 (convGV y2) false = R at hsp ht hlen
  obtain ⟨cc, l⟩ := R
  have hi : Ev (fun k => impl_DefineGlobal.f k (l0.map convG) a1 y2.f0 y2.f1 y2.f2) (cc, l) := Ev.congr (fun k => impl_DefineGlobal.f.eq_1 k _ _ _ _ _) (Ev.bind ht (Ev.now _))
  have hlen' : l.length ≤ 61 := hlen
  have e0 := eqGlobalS_ev (l0.map convG) hl
  have e1 : Ev (fun k => laws_eqGlobalsResult.f k cc l cc l) true := Ev.congr (fun k => laws_eqGlobalsResult.f.eq_1 k _ _ _ _) (Ev.ifp rfl (Ev.bind (eqGlobalS_ev l (by omega)) (Ev.ifp rfl (Ev.now _))))
  have m0 := markGlobalS_ev (l0.map convG) hl 1 (by omega) (by omega)
  have m1 : Ev (fun k => laws_markGlobalsResult.f k cc l 1) (1 + 5 * (l.length : Int), markL markOfGlobal 5 l.length 1) := Ev.congr (fun k => laws_markGlobalsResult.f.eq_1 k _ _ _) (Ev.bind (markGlobalS_ev l (by omega) 1 (by omega) (by omega)) (Ev.now _))
  have m2 : Ev (fun k => laws_heldGlobalsResult.f k cc (markL markOfGlobal 5 l.length 1) 1) (1 + 5 * (l.length : Int)) := Ev.congr (fun k => laws_heldGlobalsResult.f.eq_1 k _ _ _) (Ev.bind (heldGlobalS_ev l.length (by omega) 1 (by omega) (by omega)) (Ev.ifn (by omega) (Ev.now _)))
  refine Ev.step (fun k => laws_FnExactDefineGlobal.j1.eq_2 _ _ _ _ _ _ k) ?_
  refine Ev.bind0 hq ?_
  refine Ev.iff (fun _ => Ev.now _) (fun _ => ?_)
  refine Ev.step (fun k => laws_FnExactDefineGlobal.j2.eq_2 _ _ _ _ _ k) ?_
  refine Ev.bind t ?_
  refine Ev.bind0 rfl ?_
  refine Ev.bind hsp ?_
  refine Ev.bind t ?_
  refine Ev.bind0 rfl ?_
  refine Ev.bind hi ?_
  refine Ev.bind e1 ?_
  refine Ev.ifp (by first | rfl | assumption | omega | (dsimp only; omega)) ?_
  refine Ev.step (fun k => laws_FnExactDefineGlobal.j3.eq_2 _ _ _ _ _ _ _ _ _ _ k) ?_
  refine Ev.bind t ?_
  refine Ev.bind e0 ?_
  refine Ev.ifp (by first | rfl | assumption | omega | (dsimp only; omega)) ?_
  refine Ev.step (fun k => laws_FnExactDefineGlobal.j4.eq_2 _ _ _ _ _ _ _ _ _ _ k) ?_
  refine Ev.bind m0 ?_
  refine Ev.ifn (by first | decide | omega | (dsimp only; omega) | simp) ?_
  refine Ev.bind e1 ?_
  refine Ev.step (fun k => laws_FnExactDefineGlobal.j5.eq_2 _ _ _ _ _ _ _ _ _ _ k) ?_
  refine Ev.ifn (by first | decide | omega | (dsimp only; omega) | simp) ?_
  refine Ev.step (fun k => laws_FnExactDefineGlobal.j6.eq_2 _ _ _ _ _ _ _ _ _ k) ?_
  refine Ev.bind m1 ?_
  refine Ev.bind m2 ?_
  refine Ev.ifn (by first | decide | omega | (dsimp only; omega) | simp) ?_
  refine Ev.step (fun k => laws_FnExactDefineGlobal.j7.eq_2 _ _ _ _ _ _ _ _ _ _ _ k) ?_
  refine Ev.ifp (by first | rfl | assumption | omega | (dsimp only; omega)) ?_
  refine Ev.step (fun k => laws_FnExactDefineGlobal.j8.eq_2 _ _ _ _ _ _ _ _ _ _ k) ?_
  refine Ev.bind t ?_
  refine Ev.bind0 rfl ?_
  refine Ev.bind hi ?_
  refine Ev.bind e1 ?_
  refine Ev.ifp (by first | rfl | assumption | omega | (dsimp only; omega)) ?_
  refine Ev.step (fun k => laws_FnExactDefineGlobal.j9.eq_2 _ _ _ k) ?_
  refine Ev.bind m2 ?_
  refine Ev.ifn (by first | decide | omega | (dsimp only; omega) | simp) ?_
  refine Ev.ifp (by first | rfl | assumption | omega | (dsimp only; omega)) ?_
  exact Ev.now _
end Go.Proofs.YthjfdohcdkpdnaaDoor.Pure
