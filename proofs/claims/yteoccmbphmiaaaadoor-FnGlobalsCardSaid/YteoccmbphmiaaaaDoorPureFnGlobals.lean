/- Proved: the pure statement behind the law FnGlobals: whatever its arguments, the law's plain function answers true. Conditions: the arguments are well formed values of their types. -/
import Derived.Test.YteoccmbphmiaaaaDoorRightLib
import Derived.Test.YteoccmbphmiaaaaDoorB11
import Derived.Test.YteoccmbphmiaaaaDoorB10
import Derived.Test.YteoccmbphmiaaaaDoorB9
namespace Go.Proofs.YteoccmbphmiaaaaDoor.Pure
open Go.RowKit Go.Proofs.YteoccmbphmiaaaaDoor.B Go.Proofs.YteoccmbphmiaaaaDoorW.PrintWords Go.Proofs.YteoccmbphmiaaaaDoorW.PrintLast Go.Proofs.YteoccmbphmiaaaaDoor.PL
set_option linter.unusedSimpArgs false

theorem specSetG_ev (xs : List S33) (nm : ByteArray) (v : S26) (hx : okG xs) (hn : nm.size ≤ 9223372036854775807) (hv : v.f2.size ≤ 9223372036854775807) (hl : xs.length ≤ 1048576) : Ev (fun k => spec_SetGlobal.f k xs nm v.f0 v.f1 v.f2) (turnM xs nm v true) := by
  refine Ev.congr (fun k => spec_SetGlobal.f.eq_1 k _ _ _ _ _) (Ev.bind (l7Asked_ev xs nm hx hn) (Ev.iff (fun c => Ev.bind (l5Fault_ev _ _ _ hv) (Ev.iff (fun d => Ev.bind (l7At_ev xs nm (by omega)) (Ev.iff (fun e => Ev.leaf ?_) (fun e => Ev.bind (l7Put_ev xs nm v hl) (Ev.leaf ?_)))) (fun d => Ev.leaf ?_))) (fun c => Ev.leaf ?_)))
  · unfold turnM; rw [if_pos c, if_pos d, if_pos ⟨by omega, rfl⟩]
  · unfold turnM; rw [if_pos c, if_pos d, if_neg (fun h => h.1 (by omega))]
  · unfold turnM; rw [if_pos c, if_neg d]
  · unfold turnM; rw [if_neg c]
/-- The law's loop over the globals there were. -/
theorem others_loop (xs G : List S33) (nm : ByteArray) (hG : GoodG G) (hO : okG G) (hl : G.length ≤ 61) (hx : xs.length ≤ G.length) (he : ∀ i (h : i < xs.length), (G[i]'(by omega)).f0 = xs[i].f0 ∧ (xs[i].f0 ≠ nm → (G[i]'(by omega)) = xs[i])) (v0 v1 : Int) (v2 : ByteArray) (c s : Int) (S : List S33) (w0 : Int) (w1 : ByteArray) (w2 w3 : Int) (w4 : ByteArray) (w5 n0 : Int) (n1 : ByteArray) (n2 n3 : Int) (n4 : ByteArray) (n5 : Int)
    (h8 : Ev (fun k => laws_FnGlobals.j8 k v0 v1 v2 c G s S w0 w1 w2 w3 w4 w5 n0 n1 n2 n3 n4 n5) true) : ∀ (d i : Nat), i + d = xs.length → Ev (fun k => laws_FnGlobals.l0 k xs nm (i : Int) v0 v1 v2 c G s S w0 w1 w2 w3 w4 w5 n0 n1 n2 n3 n4 n5) true
  | 0, i, h => Ev.step (fun k => laws_FnGlobals.l0.eq_2 _ _ _ _ _ _ _ _ _ _ _ _ _ _ _ _ _ _ _ _ _ _ k) (Ev.ifn (by omega) h8)
  | d + 1, i, h => by
    have hi : i < xs.length := by omega
    have hg : i < G.length := by omega
    have q := look_hit hG hO (by omega) i hg
    obtain ⟨e0, e1⟩ := he i hi
    rw [e0] at q
    have next : Ev (fun k => laws_FnGlobals.j5 k xs nm (i : Int) false v0 v1 v2 c G s S w0 w1 w2 w3 w4 w5 n0 n1 n2 n3 n4 n5) true := by
      refine Ev.step (fun k => laws_FnGlobals.j5.eq_2 _ _ _ _ _ _ _ _ _ _ _ _ _ _ _ _ _ _ _ _ _ _ _ k) (Ev.ifn (by simp) (Ev.step (fun k => laws_FnGlobals.j6.eq_2 _ _ _ _ _ _ _ _ _ _ _ _ _ _ _ _ _ _ _ _ _ _ k) (Ev.step (fun k => laws_FnGlobals.j7.eq_2 _ _ _ _ _ _ _ _ _ _ _ _ _ _ _ _ _ _ _ _ _ _ k) ?_)))
      rw [wrap_succ hi (by omega)]
      exact others_loop xs G nm hG hO hl hx he v0 v1 v2 c s S w0 w1 w2 w3 w4 w5 n0 n1 n2 n3 n4 n5 h8 d (i + 1) (by omega)
    refine Ev.step (fun k => laws_FnGlobals.l0.eq_2 _ _ _ _ _ _ _ _ _ _ _ _ _ _ _ _ _ _ _ _ _ _ k) (Ev.ifp (by omega) (Ev.step (fun k => laws_FnGlobals.j4.eq_2 _ _ _ _ _ _ _ _ _ _ _ _ _ _ _ _ _ _ _ _ _ _ k) (Ev.ifp (by omega) (Ev.ifp (by omega) ?_))))
    rw [rdGm hi]
    refine Ev.bind q (Ev.iff (fun _ => next) (fun c2 => ?_))
    rw [e1 (fun z => c2 (by rw [z]))]
    simpa using next
theorem okG_up {xs : List S33} (h : okG xs) (j : Nat) (hj : j < xs.length) (v : S26) (hv : v.f2.size ≤ 9223372036854775807) (n : Int) : okG (xs.set j ⟨xs[j].f0, v, n⟩) := by
  intro x hx
  rcases List.mem_or_eq_of_mem_set hx with hm | rfl
  · exact h x hm
  · exact ⟨(h xs[j] (List.getElem_mem hj)).1, hv⟩
theorem okG_new {xs : List S33} (h : okG xs) (nm : ByteArray) (hn : nm.size ≤ 9223372036854775807) (v : S26) (hv : v.f2.size ≤ 9223372036854775807) (n : Int) : okG (xs ++ [⟨nm, v, n⟩]) := by
  intro x hx
  rcases List.mem_append.mp hx with hm | hm
  · exact h x hm
  · rw [List.mem_singleton] at hm
    subst hm
    exact ⟨hn, hv⟩
theorem same_bytes (a : ByteArray) : (a.toList == a.toList) = true := by simp
theorem taken (xs : List S33) (nm : ByteArray) (v : S26) (hx : okG xs) (hn : nm.size ≤ 12) (hv : v.f2.size ≤ 12) (hl : xs.length ≤ 61) (c : (turnM xs nm v false).1 = 0) : Ev (fun k => laws_FnGlobals.j2 k xs nm v.f0 v.f1 v.f2 0 (turnM xs nm v false).2 (turnM xs nm v true).1 (turnM xs nm v true).2) true := by
  have cn : nameM xs nm = 0 := by
    by_cases z : nameM xs nm = 0
    · exact z
    · unfold turnM at c; rw [if_neg z] at c; exact c
  have cv : valueM v.f0 v.f1 v.f2 = 0 := by
    by_cases z : valueM v.f0 v.f1 v.f2 = 0
    · exact z
    · unfold turnM at c; rw [if_pos cn, if_neg z] at c; exact absurd c z
  obtain ⟨cg, cs⟩ := nameM_0.mp cn
  have hG := good_of cg
  have hv' : v.f2.size ≤ 9223372036854775807 := by omega
  by_cases ca : 0 ≤ atM xs nm
  · obtain ⟨j, hj, ea, en⟩ := atM_found ca
    have hr := rdGm hj
    have cf : xs[j].f2 < 99999 := by
      by_cases z : xs[j].f2 < 99999
      · exact z
      · unfold turnM putG at c
        rw [if_pos cn, if_pos cv, if_neg (by simp), if_pos ca, ea, hr, if_pos (by omega)] at c
        exact absurd c (by decide)
    obtain ⟨e, hU⟩ := good_up hG j hj v cv cf
    rw [e] at hU
    rw [en] at e hU
    have t0 : turnM xs nm v false = (0, xs.set j ⟨nm, v, xs[j].f2 + 1⟩) := by
      unfold turnM putG
      rw [if_pos cn, if_pos cv, if_neg (by simp), if_pos ca, ea, hr, if_neg (by omega)]
      simp only [Int.toNat_natCast, e]
    have t1 : turnM xs nm v true = (0, xs.set j ⟨nm, v, xs[j].f2 + 1⟩) := by
      unfold turnM putG
      rw [if_pos cn, if_pos cv, if_neg (fun h => h.1 ca), if_pos ca, ea, hr, if_neg (by omega)]
      simp only [Int.toNat_natCast, e]
    rw [t0, t1]
    have hO := okG_up hx j hj v hv' (xs[j].f2 + 1)
    rw [en] at hO
    have hlen : (xs.set j ⟨nm, v, xs[j].f2 + 1⟩).length = xs.length := List.length_set
    have gf : Ev (fun k => impl_GlobalsFault.f k (xs.set j ⟨nm, v, xs[j].f2 + 1⟩)) 0 := Ev.cast (implGlob_ev _ hO) (of_good hU)
    have was := look_hit hG hx (by omega) j hj
    have hjn : j < (xs.set j (⟨nm, v, xs[j].f2 + 1⟩ : S33)).length := by omega
    have now := look_hit hU hO (by omega) j hjn
    rw [List.getElem_set_self] at now
    have hb := inB_iff.mp (hG.2.1 j hj).2.2
    rw [en] at was
    refine Ev.step (fun k => laws_FnGlobals.j2.eq_2 _ _ _ _ _ _ _ _ _ k) (Ev.bind was (Ev.bind now ?_))
    refine others_loop xs _ nm hU hO (by omega) (by omega) (fun i hi => ?_) _ _ _ _ _ _ _ _ _ _ _ _ _ _ _ _ _ _ ?_ xs.length 0 (by omega)
    · rw [List.getElem_set]
      split
      · rename_i z
        subst z
        exact ⟨en.symm, fun z => absurd en z⟩
      · exact ⟨rfl, fun _ => rfl⟩
    · refine Ev.step (fun k => laws_FnGlobals.j8.eq_2 _ _ _ _ _ _ _ _ _ _ _ _ _ _ _ _ _ _ _ k) (Ev.ifp rfl (Ev.ifp (by simp) (Ev.ifp rfl (Ev.ifp ?_ (Ev.ifp rfl (Ev.bind gf (Ev.step (fun k => laws_FnGlobals.j9.eq_2 _ k) (Ev.now _))))))))
      exact (wrap_id (x := xs[j].f2 + 1) (by omega) (by omega)).symm
  · have cm := atM_missing (xs := xs) (nm := nm) (by omega)
    have cf : xs.length < 60 := by
      by_cases z : xs.length < 60
      · exact z
      · unfold turnM putG at c
        rw [if_pos cn, if_pos cv, if_neg (by simp), if_neg ca, if_pos (by omega)] at c
        exact absurd c (by decide)
    have hU := good_new hG nm v cs cv cf cm
    have t0 : turnM xs nm v false = (0, xs ++ [⟨nm, v, 1⟩]) := by
      unfold turnM putG
      rw [if_pos cn, if_pos cv, if_neg (by simp), if_neg ca, if_neg (by omega)]
    have t1 : turnM xs nm v true = (4, []) := by
      unfold turnM
      rw [if_pos cn, if_pos cv, if_pos ⟨ca, rfl⟩]
    rw [t0, t1]
    have hO := okG_new hx nm (by omega) v hv' 1
    have hlen : (xs ++ [(⟨nm, v, 1⟩ : S33)]).length = xs.length + 1 := by simp
    have gf : Ev (fun k => impl_GlobalsFault.f k (xs ++ [⟨nm, v, 1⟩])) 0 := Ev.cast (implGlob_ev _ hO) (of_good hU)
    have was := look_miss hG hx (by omega) cs (by omega) cm
    have hjn : xs.length < (xs ++ [(⟨nm, v, 1⟩ : S33)]).length := by omega
    have now := look_hit hU hO (by omega) xs.length hjn
    have en : (xs ++ [(⟨nm, v, 1⟩ : S33)])[xs.length]'hjn = ⟨nm, v, 1⟩ := by simp
    rw [en] at now
    refine Ev.step (fun k => laws_FnGlobals.j2.eq_2 _ _ _ _ _ _ _ _ _ k) (Ev.bind was (Ev.bind now ?_))
    refine others_loop xs _ nm hU hO (by omega) (by omega) (fun i hi => ?_) _ _ _ _ _ _ _ _ _ _ _ _ _ _ _ _ _ _ ?_ xs.length 0 (by omega)
    · rw [List.getElem_append_left hi]
      exact ⟨rfl, fun _ => rfl⟩
    · exact Ev.step (fun k => laws_FnGlobals.j8.eq_2 _ _ _ _ _ _ _ _ _ _ _ _ _ _ _ _ _ _ _ k) (Ev.ifp rfl (Ev.ifp (by simp) (Ev.ifn (by decide) (Ev.ifp rfl (Ev.ifp rfl (Ev.bind gf (Ev.step (fun k => laws_FnGlobals.j9.eq_2 _ k) (Ev.now _))))))))
theorem FnGlobals : ∀ (l0 : List Int), (l0.length ≤ maxLen ∧ ∀ y ∈ l0, (Lit.int .u8 y).wf = true) → ∃ k, laws_FnGlobals.f k l0 = some true := by
  intro l0 h
  refine Ev.rounds (r := true) (Ev.congr (fun k => laws_FnGlobals.f.eq_1 k _) (Ev.bind0 rfl (Ev.iff (fun _ => Ev.now _) (fun c => ?_))))
  have hl : okB l0 := okB_of l0 (by have z := c; simp at z; omega) h.2
  obtain ⟨xs, nm, a, c, n, hd, hx, hn, hv⟩ := drawDefine_ev l0 hl
  have ho := smallG_ok hx
  have hn' : nm.size ≤ 9223372036854775807 := by omega
  have hv' : (⟨a, c, n⟩ : S26).f2.size ≤ 9223372036854775807 := by show n.size ≤ _; omega
  have hl1 : xs.length ≤ 1048576 := by have := hx.1; omega
  have sd := specDefine_ev xs nm ⟨a, c, n⟩ ho hn' hv' hl1
  have ss := specSetG_ev xs nm ⟨a, c, n⟩ ho hn' hv' hl1
  have id : Ev (fun k => impl_DefineGlobal.f k xs nm a c n) (turnM xs nm ⟨a, c, n⟩ false) := Ev.congr (fun k => impl_DefineGlobal.f.eq_1 k _ _ _ _ _) (Ev.bind (turn_ev xs nm ⟨a, c, n⟩ false ho hn' hv') (Ev.now _))
  have is : Ev (fun k => impl_SetGlobal.f k xs nm a c n) (turnM xs nm ⟨a, c, n⟩ true) := Ev.congr (fun k => impl_SetGlobal.f.eq_1 k _ _ _ _ _) (Ev.bind (turn_ev xs nm ⟨a, c, n⟩ true ho hn' hv') (Ev.now _))
  have ht : (turnM xs nm ⟨a, c, n⟩ false).1 = 0 → _ := taken xs nm ⟨a, c, n⟩ ho hn hv hx.1
  generalize turnM xs nm ⟨a, c, n⟩ false = R at sd id ht
  generalize turnM xs nm ⟨a, c, n⟩ true = Q at ss is ht
  refine Ev.step (fun k => laws_FnGlobals.j0.eq_2 _ k) (Ev.bind hd (Ev.bind id (Ev.bind is (Ev.iff (fun z => ?_) (fun z => ?_)))))
  · have := ht z
    rw [z]
    exact this
  · refine Ev.bind sd (Ev.ifp rfl (Ev.bind ss (Ev.step (fun k => laws_FnGlobals.j1.eq_2 _ k) (Ev.leaf (by simp)))))
end Go.Proofs.YteoccmbphmiaaaaDoor.Pure
