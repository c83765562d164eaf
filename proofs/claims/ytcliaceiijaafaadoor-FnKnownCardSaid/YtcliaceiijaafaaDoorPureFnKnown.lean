/- Proved: the pure statement behind the law FnKnown: whatever its arguments, the law's plain function answers true. Conditions: the arguments are well formed values of their types. -/
import Derived.Test.YtcliaceiijaafaaDoorGlobSemLib
import Derived.Test.YtcliaceiijaafaaDoorNewGLib
import Derived.Test.YtcliaceiijaafaaDoorDrawLib
import Derived.Test.YtcliaceiijaafaaDoorA15
import Derived.Test.YtcliaceiijaafaaDoorA15
import Derived.Test.YtcliaceiijaafaaDoorA16
import Derived.Test.YtcliaceiijaafaaDoorA4
import Derived.Test.YtcliaceiijaafaaDoorA5
import Derived.Test.YtcliaceiijaafaaDoorA6
import Derived.Test.YtcliaceiijaafaaDoorA8
namespace Go.Proofs.YtcliaceiijaafaaDoor.Pure
open Go.RowKit Go.Proofs.YtcliaceiijaafaaDoor.A Go.Proofs.YtcliaceiijaafaaDoorW.PrintWords Go.Proofs.YtcliaceiijaafaaDoorW.PrintLast Go.Proofs.YtcliaceiijaafaaDoor.PL

theorem newU_at (v : Int) (ns : List ByteArray) : ∀ d i j (h : j < (newU v ns d i).length), (newU v ns d i)[j] = ⟨rdOf ByteArray.empty ns ((i + j : Nat) : Int), ⟨8, ((i + j : Nat) : Int), ⟨#[]⟩⟩, v⟩
  | 0, _, _, h => by simp [newU] at h
  | d + 1, i, 0, h => by simp [newU]
  | d + 1, i, j + 1, h => by
    have h' : j < (newU v ns d (i + 1)).length := by rw [newU_length] at h ⊢; omega
    have := newU_at v ns d (i + 1) j h'
    rw [show i + 1 + j = i + (j + 1) from by omega] at this
    simpa [newU] using this
theorem newM_len (v : Int) : (newM v).length = 16 := newU_length _ _ _ _
theorem newM_at (v : Int) (j : Nat) (h : j < (newM v).length) : (newM v)[j] = ⟨rdOf ByteArray.empty primN (j : Int), ⟨8, (j : Int), ⟨#[]⟩⟩, v⟩ := by
  have := newU_at v primN 16 0 j h
  rw [Nat.zero_add] at this
  exact this
theorem prim_facts : ∀ j : Fin 16, symB (rdOf ByteArray.empty primN (j.val : Int)) = true ∧ (rdOf ByteArray.empty primN (j.val : Int)).size ≤ 12 ∧ valueM 8 (j.val : Int) ⟨#[]⟩ = 0 ∧ rdOf ByteArray.empty primN (j.val : Int) ≠ ⟨#[102, 111, 111]⟩ := by decide +kernel
theorem prim_apart : ∀ i j : Fin 16, i ≠ j → (rdOf ByteArray.empty primN (i.val : Int)) ≠ (rdOf ByteArray.empty primN (j.val : Int)) := by decide +kernel
theorem newM_good (v : Int) (h : inB v 1 99999 = true) : GoodG (newM v) := by
  have hl := newM_len v
  refine ⟨by omega, fun i hi => ?_, fun i j hi hj hij => ?_⟩
  · have := prim_facts ⟨i, by omega⟩
    rw [newM_at v i hi]
    exact ⟨this.1, this.2.2.1, h⟩
  · rw [newM_at v i hi, newM_at v j hj]
    exact prim_apart ⟨i, by omega⟩ ⟨j, by omega⟩ (fun z => by have := congrArg Fin.val z; simp at this; omega)
theorem newM_ok (v : Int) : okG (newM v) := by
  intro x hx
  obtain ⟨i, hi, rfl⟩ := List.getElem_of_mem hx
  have hl := newM_len v
  have := (prim_facts ⟨i, by omega⟩).2.1
  rw [newM_at v i hi]
  exact ⟨Nat.le_trans this (by decide), (by decide : (⟨#[]⟩ : ByteArray).size ≤ 9223372036854775807)⟩
theorem index_loop (ns : List ByteArray) (nm : ByteArray) (j : Nat) (hj : j < ns.length) (hl : ns.length ≤ 1048576) (hm : rdOf ByteArray.empty ns (j : Int) = nm) (hn : ∀ q : Nat, q < j → rdOf ByteArray.empty ns (q : Int) ≠ nm) : ∀ d i, i + d = j → Ev (fun k => slices_Index_string_string.l0 k ns nm (ns.length : Int) (i : Int)) (j : Int)
  | 0, i, h => by
    obtain rfl : i = j := by omega
    exact Ev.step (fun k => slices_Index_string_string.l0.eq_2 _ _ _ _ k) (Ev.ifp (by omega) (Ev.ifp (by omega) (Ev.ifp (by omega) (Ev.ifp (by rw [hm]) (Ev.now _)))))
  | d + 1, i, h => by
    refine Ev.step (fun k => slices_Index_string_string.l0.eq_2 _ _ _ _ k) (Ev.ifp (by omega) (Ev.ifp (by omega) (Ev.ifp (by omega) (Ev.ifn (fun z => hn i (by omega) (bytes_eq' z.symm)) ?_))))
    rw [wrap_succ (show i < ns.length by omega) (by omega)]
    exact index_loop ns nm j hj hl hm hn d (i + 1) (by omega)
theorem primOf_ev (j : Nat) (hj : j < 16) : Ev (fun k => impl_PrimOf.f k (rdOf ByteArray.empty primN (j : Int))) (0, (j : Int)) := by
  refine Ev.congr (fun k => impl_PrimOf.f.eq_1 k _) (Ev.bind0 (a := primN) rfl (Ev.bind (Ev.congr (fun k => slices_Index_string_string.f.eq_1 k _ _) (index_loop primN _ j hj (by decide) rfl (fun q hq => prim_apart ⟨q, by omega⟩ ⟨j, hj⟩ (fun z => by have := congrArg Fin.val z; simp at this; omega)) j 0 (by omega))) (Ev.ifn (by omega) (Ev.now _))))
theorem known_loop (v : Int) (hv : inB v 1 99999 = true) : ∀ (d i : Nat), i + d = 16 → Ev (fun k => laws_FnKnown.l0 k v (i : Int) 0 (newM v)) true
  | 0, i, h => by
    obtain rfl : i = 16 := by omega
    have hl := newM_len v
    have gf : Ev (fun k => impl_GlobalsFault.f k (newM v)) 0 := Ev.cast (implGlob_ev _ (newM_ok v)) (of_good (newM_good v hv))
    have lm : Ev (fun k => impl_LookGlobal.f k (newM v) (⟨#[102, 111, 111]⟩ : ByteArray)) _ := look_miss (newM_good v hv) (newM_ok v) (by omega) (by decide +kernel) (by decide) (fun i hi => by
      rw [newM_at v i hi]
      exact (prim_facts ⟨i, by omega⟩).2.2.2)
    exact Ev.step (fun k => laws_FnKnown.l0.eq_2 _ _ _ _ k) (Ev.ifn (by omega) (Ev.ifp (by omega) (Ev.bind gf (Ev.ifp rfl (Ev.bind lm (Ev.step (fun k => laws_FnKnown.j2.eq_2 _ k) (Ev.now _)))))))
  | d + 1, i, h => by
    have hl := newM_len v
    have hi : i < (newM v).length := by omega
    have p := primOf_ev i (by omega)
    have q := look_hit (newM_good v hv) (newM_ok v) (by omega) i hi
    rw [newM_at v i hi] at q
    refine Ev.step (fun k => laws_FnKnown.l0.eq_2 _ _ _ _ k) (Ev.ifp (by omega) (Ev.ifp (by omega) ?_))
    rw [rdGm hi, newM_at v i hi]
    refine Ev.bind p (Ev.bind q (Ev.ifp rfl (Ev.ifp rfl (Ev.ifp rfl (Ev.step (fun k => laws_FnKnown.j1.eq_2 _ _ _ _ _ k) (Ev.ifn (by simp) ?_))))))
    rw [wrap_succ hi (by omega)]
    exact known_loop v hv d (i + 1) (by omega)
theorem FnKnown : ∀ (l0 : List Int), (l0.length ≤ maxLen ∧ ∀ y ∈ l0, (Lit.int .u8 y).wf = true) → ∃ k, laws_FnKnown.f k l0 = some true := by
  intro l0 h
  refine Ev.rounds (r := true) (Ev.congr (fun k => laws_FnKnown.f.eq_1 k _) (Ev.bind0 rfl (Ev.iff (fun _ => Ev.now _) (fun c => ?_))))
  have hl : okB l0 := okB_of l0 (by have z := c; simp at z; omega) h.2
  obtain ⟨v, hp, _⟩ := pick_eq l0 hl 0 [1, 5, 99999, 100000, 0] (by omega) (by omega) (by simp) (by simp)
  have hd : spec_DrawNewGlobals.f l0 = some v := by
    unfold spec_DrawNewGlobals.f spec_l1Source.f
    rw [Option.bind_some]
    simp only []
    rw [hp, Option.bind_some]
  refine Ev.bind0 hd ?_
  have hi := implNew_ev v
  have hs := specNew_ev v
  unfold newR at hi hs
  by_cases c1 : inB v 1 99999 = true
  · rw [if_pos c1] at hi
    exact Ev.bind hi (Ev.ifp rfl (known_loop v c1 16 0 rfl))
  · rw [if_neg c1] at hi hs
    exact Ev.bind hi (Ev.ifn (by simp) (Ev.bind hs (Ev.now _)))
end Go.Proofs.YtcliaceiijaafaaDoor.Pure
