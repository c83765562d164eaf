/- Proved: the pure statement behind the law FnTokens: whatever its arguments, the law's plain function answers true. Conditions: the arguments are well formed values of their types. -/
import Derived.Test.YteiokhfikbndbaaGreatDoorTokBackLib
import Derived.Test.YteiokhfikbndbaaGreatDoorTokDrawLib
import Derived.Test.YteiokhfikbndbaaGreatDoorA10
import Derived.Test.YteiokhfikbndbaaGreatDoorA6
namespace Go.Proofs.YteiokhfikbndbaaGreatDoor.Pure
open Go.RowKit Go.Proofs.YteiokhfikbndbaaGreatDoor.A Go.Proofs.YteiokhfikbndbaaGreatDoorW.PrintWords Go.Proofs.YteiokhfikbndbaaGreatDoorW.PrintLast Go.Proofs.YteiokhfikbndbaaGreatDoor.PL
set_option linter.unusedSimpArgs false

theorem tok_symM {x : S37} (h : tF x = 0) (h6 : x.f0 = 6) : symM x.f2 = 0 := by
  have := (tok_ok (show tokM x.f0 x.f1 x.f2 = 0 from h)).2.2.2 h6
  unfold symM
  rw [if_pos this]
theorem toks_loop (xs : List S37) (hx : okT xs) (hF : ∀ y ∈ xs, tF y = 0) (hl : xs.length ≤ 120) (a b : Int) : ∀ d i, i + d = xs.length → Ev (fun k => laws_FnTokens.l0 k xs (i : Int) a b xs) true
  | 0, i, h => Ev.step (fun k => laws_FnTokens.l0.eq_2 _ _ _ _ _ k) (Ev.ifn (by omega) (Ev.step (fun k => laws_FnTokens.j11.eq_2 k) (Ev.now _)))
  | d + 1, i, h => by
    have hi : i < xs.length := by omega
    have ih := toks_loop xs hx hF hl a b d (i + 1) (by omega)
    have hm := List.getElem_mem hi
    have h0 := hF _ hm
    have go : Ev (fun k => laws_FnTokens.j9 k xs (i : Int) false a b xs) true := by
      refine Ev.step (fun k => laws_FnTokens.j9.eq_2 _ _ _ _ _ _ k) (Ev.ifn (by decide) (Ev.step (fun k => laws_FnTokens.j10.eq_2 _ _ _ _ _ k) ?_))
      rw [wrap_succ hi (by omega)]
      exact ih
    refine Ev.step (fun k => laws_FnTokens.l0.eq_2 _ _ _ _ _ k) (Ev.ifp (by omega) (Ev.step (fun k => laws_FnTokens.j8.eq_2 _ _ _ _ _ k) (Ev.ifp (by omega) (Ev.ifp (by omega) (Ev.ifp (by omega) ?_)))))
    rw [rdTk_at hi]
    have hr : tokR xs[i].f0 xs[i].f1 xs[i].f2 = (0, tT xs[i]) := by unfold tokR; rw [if_pos (show tokM xs[i].f0 xs[i].f1 xs[i].f2 = 0 from h0)]; rfl
    have ht := implTokenText_ev xs[i].f0 xs[i].f1 xs[i].f2 (hx _ hm)
    rw [hr] at ht
    refine Ev.ifn (by simp) (Ev.bind ht (Ev.ifp rfl (Ev.iff (fun c => ?_) (fun c => go))))
    have hs := SymFault_eq xs[i].f2 (hx _ hm)
    rw [tok_symM h0 c] at hs
    exact Ev.bind0 hs go
theorem FnTokens : ∀ (l0 : List Int), (l0.length ≤ maxLen ∧ ∀ y ∈ l0, (Lit.int .u8 y).wf = true) → ∃ k, laws_FnTokens.f k l0 = some true := by
  intro l0 h
  refine Ev.rounds (r := true) (Ev.congr (fun k => laws_FnTokens.f.eq_1 k _) (Ev.bind0 rfl (Ev.iff (fun _ => Ev.now _) (fun c => ?_))))
  have hl : okB l0 := okB_of l0 (by have z := c; simp at z; omega) h.2
  obtain ⟨t, ht⟩ := drawOf_ev l0 hl
  obtain ⟨xs, hd, hx, hn⟩ := drawTexts_ev l0 hl
  have hi := implTokensOf_ev t
  have hs := specTokensOf_ev t
  have second : Ev (fun k => laws_FnTokens.j1 k l0 false) true := by
    refine Ev.step (fun k => laws_FnTokens.j1.eq_2 _ _ k) (Ev.ifn (by decide) (Ev.step (fun k => laws_FnTokens.j2.eq_2 _ k) (Ev.bind hd (Ev.bind (implTokens_ev xs hx) (Ev.iff (fun c0 => ?_) (fun c0 => ?_))))))
    · refine Ev.step (fun k => laws_FnTokens.j3.eq_2 _ _ _ k) (Ev.iff (fun c4 => Ev.bind (specTokens_ev xs hx) (Ev.leaf (by simp))) (fun c4 => ?_))
      obtain ⟨hF, hb⟩ := toksM_back (xs := xs) (t := (toksM xs).2) (Prod.ext c0 rfl) (by omega)
      have hb2 := implTokensOf_ev (toksM xs).2
      rw [hb] at hb2
      have hl2 := toksOf_len (toksM xs).2
      rw [hb] at hl2
      refine Ev.step (fun k => laws_FnTokens.j4.eq_2 _ _ _ k) (Ev.bind hb2 (Ev.ifp rfl (Ev.step (fun k => laws_FnTokens.j5.eq_2 _ _ _ _ _ k) (Ev.ifn (by simp) (Ev.step (fun k => laws_FnTokens.j6.eq_2 _ _ _ _ k) ?_)))))
      exact toks_loop xs hx hF hl2 0 0 xs.length 0 (by omega)
    · exact Ev.bind (specTokens_ev xs hx) (Ev.leaf (by simp))
  refine Ev.step (fun k => laws_FnTokens.j0.eq_2 _ k) (Ev.bind ht (Ev.bind hi (Ev.bind hs (Ev.ifp rfl (Ev.bind hs (Ev.ifp rfl (Ev.iff (fun c0 => ?_) (fun c0 => second))))))))
  refine Ev.bind (Ev.congr (fun k => impl_SpotOf.f.eq_1 k _) (Ev.bind hi (Ev.ifp c0 (Ev.now _)))) ?_
  have e : ((((toksOf t).2.2.length : Int)) != ((toksOf t).2.2.length : Int)) = false := by simp
  rw [show ((((0 : Int), ((toksOf t).2.2.length : Int)).2) != ((toksOf t).2.2.length : Int)) = false from e]
  exact second
end Go.Proofs.YteiokhfikbndbaaGreatDoor.Pure
