/- Proved: what the program's and the reference's tests of cores come to: the same. Conditions: those in each head. -/
import Derived.Test.YtcliaceiijaafaaDoorDataFLib
import Derived.Test.YtcliaceiijaafaaDoorC7
import Derived.Test.YtcliaceiijaafaaDoorC13
import Derived.Test.YtcliaceiijaafaaDoorC1
import Derived.Test.YtcliaceiijaafaaDoorC11
import Derived.Test.YtcliaceiijaafaaDoorC12
import Derived.Test.YtcliaceiijaafaaDoorC2
import Derived.Test.YtcliaceiijaafaaDoorC4
import Derived.Test.YtcliaceiijaafaaDoorC5
import Derived.Test.YtcliaceiijaafaaDoorC6
import Derived.Test.YtcliaceiijaafaaDoorC8
import Derived.Test.YtcliaceiijaafaaDoorC9
namespace Go.Proofs.YtcliaceiijaafaaDoor.C
open Go.RowKit Go.Proofs.YtcliaceiijaafaaDoorW.PrintWords Go.Proofs.YtcliaceiijaafaaDoorW.PrintLast Go.Proofs.YtcliaceiijaafaaDoor.PL
set_option linter.unusedSimpArgs false

theorem rdCf_at {xs : List S93} {i : Nat} (h : i < xs.length) : rd_T93 xs (i : Int) = xs[i] := by simp [rd_T93, h]
def parC (xs : List S93) (at_ : Int) : Int := (rd_T93 xs at_).f1
def kindC (xs : List S93) (at_ : Int) : Int := (rd_T93 xs at_).f0
def upC (xs : List S93) : Nat → Int → Int → Bool
  | 0, _, _ => false
  | d + 1, at_, to_ => if 0 ≤ at_ then (if at_ = to_ then true else upC xs d (parC xs at_) to_) else false
def aroundC (xs : List S93) : Nat → Int → Int → Int
  | 0, _, _ => -1
  | d + 1, m, at_ => if 0 ≤ at_ then (if kindC xs at_ = 5 then (if m = 0 then at_ else aroundC xs d (wrap64 (m - 1)) (parC xs at_)) else aroundC xs d m (parC xs at_)) else -1
/-- Up to n, each parent lies ahead. -/
def AheadC (xs : List S93) (n : Nat) : Prop := ∀ j : Nat, j < n → parC xs j < j
theorem ahead_at {xs : List S93} {n : Nat} (hA : AheadC xs n) {at_ : Int} (c : 0 ≤ at_) (h : at_ < n) : parC xs at_ < at_ := by
  have := hA at_.toNat (by omega)
  rwa [Int.toNat_of_nonneg c] at this
theorem isUpC_ev (xs : List S93) (to_ : Int) (n : Nat) (hn : n ≤ xs.length) (hA : AheadC xs n) : ∀ (d : Nat) (at_ : Int), at_ < d → at_ < n → Ev (fun k => impl_isUp__impl_oneCoreFault_1.l0 k to_ at_ xs) (upC xs d at_ to_)
  | 0, at_, h0, h1 => Ev.step (fun k => impl_isUp__impl_oneCoreFault_1.l0.eq_2 _ _ _ k) (Ev.ifn (by omega) (Ev.now _))
  | d + 1, at_, h0, h1 => by
    refine Ev.step (fun k => impl_isUp__impl_oneCoreFault_1.l0.eq_2 _ _ _ k) (Ev.iff (fun c => Ev.iff (fun e => Ev.leaf (by simp only [upC]; rw [if_pos c, if_pos e])) (fun e => ?_)) (fun c => Ev.leaf (by simp only [upC]; rw [if_neg c])))
    have hp := ahead_at hA c h1
    refine Ev.bind0 (a := parC xs at_) (by unfold impl_oneCoreFault_1.f; rw [if_pos c, if_pos (by omega)]; rfl) ?_
    simp only [upC]
    rw [if_pos c, if_neg e]
    exact isUpC_ev xs to_ n hn hA d _ (by omega) (by omega)
theorem l4Line_ev (xs : List S93) (i : Int) (hi0 : 0 ≤ i) (hi1 : i < xs.length) (n : Nat) (hn : n ≤ xs.length) (hA : AheadC xs n) : ∀ (d : Nat) (at_ c : Int), at_ < d → at_ < n → 0 ≤ c → c + at_ < 200 → c ≤ 1000 → Ev (fun k => spec_l4Line.l0 k xs i c at_) (upC xs d at_ (parC xs i))
  | 0, at_, c, h0, h1, h2, h3, h4 => Ev.step (fun k => spec_l4Line.l0.eq_2 _ _ _ _ k) (Ev.ifn (by omega) (Ev.step (fun k => spec_l4Line.j1.eq_2 _ _ _ _ _ k) (Ev.ifn (by simp) (Ev.now _))))
  | d + 1, at_, c, h0, h1, h2, h3, h4 => by
    refine Ev.step (fun k => spec_l4Line.l0.eq_2 _ _ _ _ k) (Ev.iff (fun e => Ev.step (fun k => spec_l4Line.j1.eq_2 _ _ _ _ _ k) (Ev.ifp (decide_eq_true (by omega)) (Ev.ifp hi0 (Ev.ifp hi1 (Ev.iff (fun f => Ev.leaf ?_) (fun f => Ev.ifp e (Ev.ifp (by omega) ?_))))))) (fun e => Ev.step (fun k => spec_l4Line.j1.eq_2 _ _ _ _ _ k) (Ev.ifn (by simp) (Ev.leaf (by simp only [upC]; rw [if_neg e])))))
    · have f' : at_ = parC xs i := f
      simp only [upC]; rw [if_pos e, if_pos f']
    · have f' : ¬ at_ = parC xs i := f
      have hp := ahead_at hA e h1
      have hp' : (rd_T93 xs at_).f1 < at_ := hp
      rw [wrap_id (by omega) (by omega)]
      simp only [upC]; rw [if_pos e, if_neg f']
      exact l4Line_ev xs i hi0 hi1 n hn hA d _ _ (by omega) (by omega) (by omega) (by omega) (by omega)
/-- What the lambda around comes to, told by its place. -/
def outT (xs : List S93) (p : Int) : Int × Int × Int × Int × ByteArray × List S127 × Bool :=
  if 0 ≤ p then ((rd_T93 xs p).f0, (rd_T93 xs p).f1, (rd_T93 xs p).f2, (rd_T93 xs p).f3, (rd_T93 xs p).f4, (rd_T93 xs p).f5, true) else (0, 0, 0, 0, ⟨#[]⟩, [], false)
theorem lambdaOut_ev (xs : List S93) (n : Nat) (hn : n ≤ xs.length) (hA : AheadC xs n) : ∀ (d : Nat) (m at_ : Int), at_ < d → at_ < n → Ev (fun k => impl_lambdaOut.l0 k xs m at_) (outT xs (aroundC xs d m at_))
  | 0, m, at_, h0, h1 => Ev.step (fun k => impl_lambdaOut.l0.eq_2 _ _ _ k) (Ev.ifn (by omega) (Ev.now _))
  | d + 1, m, at_, h0, h1 => by
    refine Ev.step (fun k => impl_lambdaOut.l0.eq_2 _ _ _ k) (Ev.iff (fun e => Ev.ifp e (Ev.ifp (by omega) (Ev.iff (fun f => Ev.iff (fun g => Ev.leaf ?_) (fun g => ?_)) (fun f => ?_)))) (fun e => Ev.leaf ?_))
    · have f' : kindC xs at_ = 5 := f
      have e' : 0 ≤ at_ := e
      simp only [aroundC]; rw [if_pos e', if_pos f', if_pos g]; unfold outT; rw [if_pos e']
    · have f' : kindC xs at_ = 5 := f
      have e' : 0 ≤ at_ := e
      have hp := ahead_at hA e' h1
      simp only [aroundC]; rw [if_pos e', if_pos f', if_neg g]
      exact lambdaOut_ev xs n hn hA d _ _ (show parC xs at_ < d by omega) (show parC xs at_ < n by omega)
    · have f' : ¬ kindC xs at_ = 5 := f
      have e' : 0 ≤ at_ := e
      have hp := ahead_at hA e' h1
      simp only [aroundC]; rw [if_pos e', if_neg f']
      exact lambdaOut_ev xs n hn hA d _ _ (show parC xs at_ < d by omega) (show parC xs at_ < n by omega)
    · have e' : ¬ 0 ≤ at_ := e
      simp only [aroundC]; rw [if_neg e']; rfl
theorem l4Around_ev (xs : List S93) (n : Nat) (hn : n ≤ xs.length) (hA : AheadC xs n) : ∀ (d : Nat) (m at_ : Int), at_ < d → at_ < n → Ev (fun k => spec_l4Around.l0 k xs m at_) (aroundC xs d m at_)
  | 0, m, at_, h0, h1 => Ev.step (fun k => spec_l4Around.l0.eq_2 _ _ _ k) (Ev.ifn (by omega) (Ev.now _))
  | d + 1, m, at_, h0, h1 => by
    refine Ev.step (fun k => spec_l4Around.l0.eq_2 _ _ _ k) (Ev.iff (fun e => Ev.ifp e (Ev.ifp (by omega) (Ev.iff (fun f => Ev.iff (fun g => Ev.leaf ?_) (fun g => ?_)) (fun f => ?_)))) (fun e => Ev.leaf ?_))
    · have f' : kindC xs at_ = 5 := f
      have e' : 0 ≤ at_ := e
      simp only [aroundC]; rw [if_pos e', if_pos f', if_pos g]
    · have f' : kindC xs at_ = 5 := f
      have e' : 0 ≤ at_ := e
      have hp := ahead_at hA e' h1
      simp only [aroundC]; rw [if_pos e', if_pos f', if_neg g]
      exact l4Around_ev xs n hn hA d _ _ (show parC xs at_ < d by omega) (show parC xs at_ < n by omega)
    · have f' : ¬ kindC xs at_ = 5 := f
      have e' : 0 ≤ at_ := e
      have hp := ahead_at hA e' h1
      simp only [aroundC]; rw [if_pos e', if_neg f']
      exact l4Around_ev xs n hn hA d _ _ (show parC xs at_ < d by omega) (show parC xs at_ < n by omega)
    · have e' : ¬ 0 ≤ at_ := e
      simp only [aroundC]; rw [if_neg e']
theorem around_lt (xs : List S93) (n : Nat) (hA : AheadC xs n) : ∀ (d : Nat) (m at_ : Int), at_ < n → aroundC xs d m at_ < n
  | 0, _, _, _ => by simp only [aroundC]; omega
  | d + 1, m, at_, h => by
    simp only [aroundC]
    by_cases e : 0 ≤ at_
    · have hp := ahead_at hA e h
      have h1 := around_lt xs n hA d (wrap64 (m - 1)) (parC xs at_) (by omega)
      have h2 := around_lt xs n hA d m (parC xs at_) (by omega)
      rw [if_pos e]
      split
      · split
        · exact h
        · exact h1
      · exact h2
    · rw [if_neg e]; omega
theorem around_far (xs : List S93) (n : Nat) (hA : AheadC xs n) : ∀ (d : Nat) (m at_ : Int), at_ < n → at_ < m → 0 ≤ m → m ≤ 9223372036854775807 → aroundC xs d m at_ = -1
  | 0, _, _, _, _, _, _ => rfl
  | d + 1, m, at_, h, hm, hm0, hm1 => by
    simp only [aroundC]
    by_cases e : 0 ≤ at_
    · have hp := ahead_at hA e h
      rw [if_pos e, wrap_id (by omega) (by omega), if_neg (show ¬ m = 0 by omega)]
      split
      · exact around_far xs n hA d _ _ (by omega) (by omega) (by omega) (by omega)
      · exact around_far xs n hA d _ _ (by omega) (by omega) (by omega) (by omega)
    · rw [if_neg e]
def namedB (K : Int) : Bool := K == 3 || K == 7 || K == 8
theorem implNamed_eq (K : Int) : impl_named.f K = some (namedB K) := by
  unfold impl_named.f namedB
  by_cases a : K = 3
  · simp [a]
  · by_cases b : K = 7
    · simp [b]
    · simp [a, b]
theorem l4Named_eq (K : Int) : spec_l4Named.f K = some (namedB K) := by
  unfold spec_l4Named.f namedB
  by_cases a : K = 3
  · simp [a]
  · by_cases b : K = 7
    · simp [b]
    · simp [a, b]
/-- A core has nothing that its kind has not. -/
def formC (K M P : Int) (s : ByteArray) (l : List S127) : Bool := inB K 1 9 && (decide (M = 0) || decide (K = 2) || decide (K = 5)) && (decide (P = 0) || decide (K = 2)) && (decide (s.toList = []) || namedB K) && (decide ((l.length : Int) = 0) || decide (K = 1))
set_option maxHeartbeats 4000000 in
theorem coreForm_eq (K Q M P : Int) (s : ByteArray) (l : List S127) : impl_coreForm.f K Q M P s l = some (formC K M P s l) := by
  unfold impl_coreForm.f formC
  simp only [in_eq, implNamed_eq, Option.bind_some]
  generalize namedB K = q
  generalize (l.length : Int) = len
  generalize s.toList = sl
  generalize hb : inB K 1 9 = b
  cases b
  · simp
  by_cases k1 : K = 1
  · subst k1
    by_cases m : M = 0 <;> by_cases p : P = 0 <;> by_cases e : sl = [] <;> by_cases n : len = 0 <;> cases q <;> simp [m, p, e, n]
  by_cases k2 : K = 2
  · subst k2
    by_cases m : M = 0 <;> by_cases p : P = 0 <;> by_cases e : sl = [] <;> by_cases n : len = 0 <;> cases q <;> simp [m, p, e, n]
  by_cases k5 : K = 5
  · subst k5
    by_cases m : M = 0 <;> by_cases p : P = 0 <;> by_cases e : sl = [] <;> by_cases n : len = 0 <;> cases q <;> simp [m, p, e, n]
  by_cases m : M = 0 <;> by_cases p : P = 0 <;> by_cases e : sl = [] <;> by_cases n : len = 0 <;> cases q <;> simp [m, p, e, n, k1, k2, k5]
set_option maxHeartbeats 4000000 in
theorem l4Bare_eq (K Q M P : Int) (s : ByteArray) (l : List S127) : spec_l4Bare.f K Q M P s l = some (formC K M P s l) := by
  unfold spec_l4Bare.f formC
  simp only [l1In_eq, l4Named_eq, Option.bind_some]
  generalize namedB K = q
  generalize (l.length : Int) = len
  generalize s.toList = sl
  generalize hb : inB K 1 9 = b
  cases b
  · simp
  by_cases k1 : K = 1
  · subst k1
    by_cases m : M = 0 <;> by_cases p : P = 0 <;> by_cases e : sl = [] <;> by_cases n : len = 0 <;> cases q <;> simp [m, p, e, n]
  by_cases k2 : K = 2
  · subst k2
    by_cases m : M = 0 <;> by_cases p : P = 0 <;> by_cases e : sl = [] <;> by_cases n : len = 0 <;> cases q <;> simp [m, p, e, n]
  by_cases k5 : K = 5
  · subst k5
    by_cases m : M = 0 <;> by_cases p : P = 0 <;> by_cases e : sl = [] <;> by_cases n : len = 0 <;> cases q <;> simp [m, p, e, n]
  by_cases m : M = 0 <;> by_cases p : P = 0 <;> by_cases e : sl = [] <;> by_cases n : len = 0 <;> cases q <;> simp [m, p, e, n, k1, k2, k5]
def kwAt (L : List ByteArray) (s : ByteArray) (i : Nat) : Option Int := if (rdOf ByteArray.empty L (i : Int)).toList = s.toList then some (i : Int) else none
def kwAt2 (L : List ByteArray) (s : ByteArray) (i : Nat) : Option Bool := if (rdOf ByteArray.empty L (i : Int)).toList = s.toList then some true else none
theorem kw_same (L : List ByteArray) (s : ByteArray) : ∀ d i, decide (runU (kwAt L s) (-1) d i ≥ 0) = runU (kwAt2 L s) false d i
  | 0, _ => rfl
  | d + 1, i => by
    by_cases c : (rdOf ByteArray.empty L (i : Int)).toList = s.toList
    · have r1 : runU (kwAt L s) (-1) (d + 1) i = (i : Int) := by simp only [runU]; rw [show kwAt L s i = some (i : Int) from if_pos c]
      have r2 : runU (kwAt2 L s) false (d + 1) i = true := by simp only [runU]; rw [show kwAt2 L s i = some true from if_pos c]
      rw [r1, r2]
      exact decide_eq_true (show (i : Int) ≥ 0 by omega)
    · have r1 : runU (kwAt L s) (-1) (d + 1) i = runU (kwAt L s) (-1) d (i + 1) := by simp only [runU]; rw [show kwAt L s i = none from if_neg c]
      have r2 : runU (kwAt2 L s) false (d + 1) i = runU (kwAt2 L s) false d (i + 1) := by simp only [runU]; rw [show kwAt2 L s i = none from if_neg c]
      rw [r1, r2]
      exact kw_same L s d (i + 1)
theorem index_ev (L : List ByteArray) (s : ByteArray) (hl : L.length ≤ 1048576) : Ev (fun k => slices_Index_string_string.f k L s) (runU (kwAt L s) (-1) L.length 0) := by
  refine Ev.congr (fun k => slices_Index_string_string.f.eq_1 k _ _) ?_
  exact loopO L.length (fun k i => slices_Index_string_string.l0 k L s (L.length : Int) i) (kwAt L s) (-1) (fun i hi r hr => by
    refine Ev.step (fun k => slices_Index_string_string.l0.eq_2 _ _ _ _ k) (Ev.ifp (by omega) (Ev.ifp (by omega) (Ev.ifp (by omega) ?_)))
    rw [wrap_succ hi (by omega)]
    exact Ev.iff (fun c => Ev.stop hr (by unfold kwAt; rw [if_pos c.symm])) (fun c => Ev.go hr (by unfold kwAt; rw [if_neg (fun z => c z.symm)])))
    (Ev.step (fun k => slices_Index_string_string.l0.eq_2 _ _ _ _ k) (Ev.ifn (by omega) (Ev.now _))) L.length 0 (by omega)
theorem specKw_ev (L : List ByteArray) (s : ByteArray) (hl : L.length ≤ 1048576) : Ev (fun k => spec_IsKeyword.l0 k s L 0) (runU (kwAt2 L s) false L.length 0) := by
  exact loopO L.length (fun k i => spec_IsKeyword.l0 k s L i) (kwAt2 L s) false (fun i hi r hr => by
    refine Ev.step (fun k => spec_IsKeyword.l0.eq_2 _ _ _ k) (Ev.ifp (by omega) (Ev.ifp (by omega) ?_))
    rw [wrap_succ hi (by omega)]
    exact Ev.iff (fun c => Ev.stop hr (by unfold kwAt2; rw [if_pos c])) (fun c => Ev.go hr (by unfold kwAt2; rw [if_neg c])))
    (Ev.step (fun k => spec_IsKeyword.l0.eq_2 _ _ _ k) (Ev.ifn (by omega) (Ev.now _))) L.length 0 (by omega)
theorem kw_ev (s : ByteArray) : ∃ b : Bool, Ev (fun k => impl_IsKeyword.f k s) b ∧ Ev (fun k => spec_IsKeyword.f k s) b := by
  refine ⟨_, Ev.congr (fun k => impl_IsKeyword.f.eq_1 k _) (Ev.bind (Ev.congr (fun k => slices_Contains_string_string.f.eq_1 k _ _) (Ev.bind (index_ev _ s (by decide)) (Ev.now _))) (Ev.now _)), ?_⟩
  rw [kw_same]
  exact Ev.congr (fun k => spec_IsKeyword.f.eq_1 k _) (specKw_ev _ s (by decide))
theorem name_ev (s : ByteArray) (hs : s.size ≤ 9223372036854775807) : ∃ b : Bool, Ev (fun k => impl_isName.f k s) b ∧ Ev (fun k => spec_l4Name.f k s) b := by
  obtain ⟨q, h1, h2⟩ := kw_ev s
  by_cases c : symB s = true
  · exact ⟨!q, Ev.congr (fun k => impl_isName.f.eq_1 k _) (Ev.bind0 (SymFault_eq s hs) (Ev.ifp (by unfold symM; rw [if_pos c]) (Ev.bind h1 (Ev.now _)))), Ev.congr (fun k => spec_l4Name.f.eq_1 k _) (Ev.bind (l2Sym_ev s hs) (Ev.ifp c (Ev.bind h2 (Ev.now _))))⟩
  · exact ⟨false, Ev.congr (fun k => impl_isName.f.eq_1 k _) (Ev.bind0 (SymFault_eq s hs) (Ev.ifn (by unfold symM; rw [if_neg c]; decide) (Ev.now _))), Ev.congr (fun k => spec_l4Name.f.eq_1 k _) (Ev.bind (l2Sym_ev s hs) (Ev.ifn c (Ev.now _)))⟩
/-- Behind a place test that holds (or not). -/
theorem tail_ev (xs : List S93) (i : Nat) (hi : i < xs.length) (b : Bool) (hk : ¬ xs[i].f0 = 8) (hb : Ev (fun k => spec_l4Place.f k xs (i : Int)) b) : Ev (fun k => spec_l4One.j3 k xs (i : Int)) (if b = true then 0 else 3) := by
  refine Ev.step (fun k => spec_l4One.j3.eq_2 _ _ k) (Ev.ifp (by omega) (Ev.ifp (by omega) ?_))
  rw [rdCf_at hi]
  refine Ev.ifn hk (Ev.step (fun k => spec_l4One.j4.eq_2 _ _ _ k) (Ev.ifn (by simp) (Ev.bind hb ?_)))
  cases b
  · exact Ev.ifn (by simp) (Ev.now _)
  · exact Ev.ifp rfl (Ev.now _)
theorem place_else (xs : List S93) (i : Nat) (hi : i < xs.length) (h5 : ¬ xs[i].f0 = 5) (h2 : ¬ xs[i].f0 = 2) : Ev (fun k => spec_l4Place.f k xs (i : Int)) true := by
  refine Ev.congr (fun k => spec_l4Place.f.eq_1 k _ _) (Ev.ifp (by omega) (Ev.ifp (by omega) ?_))
  rw [rdCf_at hi]
  exact Ev.ifn h5 (Ev.ifn h2 (Ev.now _))
theorem core_j2 (xs : List S93) (i : Nat) (hi : i < xs.length) (hl : xs.length ≤ 160) (hA : AheadC xs i) (hpar : xs[i].f1 < i) (hd : okD xs[i].f5) (hM : -9223372036854775808 ≤ xs[i].f2 ∧ xs[i].f2 ≤ 9223372036854775807) :
    ∃ c, Ev (fun k => impl_oneCoreFault.j2 k (i : Int) xs xs[i].f0 xs[i].f1 xs[i].f2 xs[i].f3 xs[i].f4 xs[i].f5) c ∧ Ev (fun k => spec_l4One.j2 k xs (i : Int) false) c := by
  have hstart : ∀ c, Ev (fun k => if xs[i].f0 = 1 then ((spec_l3Fault.f k xs[i].f5).bind fun t702 => (if t702 = 0 then (spec_l4One.j3 k xs (i : Int)) else (some t702))) else (spec_l4One.j3 k xs (i : Int))) c → Ev (fun k => spec_l4One.j2 k xs (i : Int) false) c := fun c h => by
    refine Ev.step (fun k => spec_l4One.j2.eq_2 _ _ _ k) (Ev.ifn (by simp) (Ev.ifp (by omega) (Ev.ifp (by omega) ?_)))
    rw [rdCf_at hi]
    exact h
  by_cases k1 : xs[i].f0 = 1
  · refine ⟨dataM xs[i].f5, Ev.step (fun k => impl_oneCoreFault.j2.eq_2 _ _ _ _ _ _ _ _ k) (Ev.ifp k1 (Ev.bind (implData_ev _ hd) (Ev.now _))), hstart _ (Ev.ifp k1 (Ev.bind (l3Fault_ev _ hd) (Ev.iff (fun c => ?_) (fun c => Ev.now _))))⟩
    have := tail_ev xs i hi true (by omega) (place_else xs i hi (by omega) (by omega))
    rw [c]
    exact this
  by_cases k8 : xs[i].f0 = 8
  · have hp := place_else xs i hi (by omega) (by omega)
    by_cases z : (i : Int) > 0
    · refine ⟨1, Ev.step (fun k => impl_oneCoreFault.j2.eq_2 _ _ _ _ _ _ _ _ k) (Ev.ifn k1 (Ev.ifp k8 (Ev.ifp z (Ev.now _)))), hstart _ (Ev.ifn k1 (Ev.step (fun k => spec_l4One.j3.eq_2 _ _ k) (Ev.ifp (by omega) (Ev.ifp (by omega) ?_))))⟩
      rw [rdCf_at hi]
      exact Ev.ifp k8 (Ev.step (fun k => spec_l4One.j4.eq_2 _ _ _ k) (Ev.ifp (decide_eq_true z) (Ev.now _)))
    · refine ⟨0, Ev.step (fun k => impl_oneCoreFault.j2.eq_2 _ _ _ _ _ _ _ _ k) (Ev.ifn k1 (Ev.ifp k8 (Ev.ifn z (Ev.now _)))), hstart _ (Ev.ifn k1 (Ev.step (fun k => spec_l4One.j3.eq_2 _ _ k) (Ev.ifp (by omega) (Ev.ifp (by omega) ?_))))⟩
      rw [rdCf_at hi]
      exact Ev.ifp k8 (Ev.step (fun k => spec_l4One.j4.eq_2 _ _ _ k) (Ev.ifn (fun h => z (of_decide_eq_true h)) (Ev.bind hp (Ev.ifp rfl (Ev.now _)))))
  by_cases k5 : xs[i].f0 = 5
  · have hp : Ev (fun k => spec_l4Place.f k xs (i : Int)) (inB xs[i].f2 0 3) := by
      refine Ev.congr (fun k => spec_l4Place.f.eq_1 k _ _) (Ev.ifp (by omega) (Ev.ifp (by omega) ?_))
      rw [rdCf_at hi]
      exact Ev.ifp k5 (Ev.bind0 (l1In_eq _ _ _) (Ev.now _))
    refine ⟨_, Ev.step (fun k => impl_oneCoreFault.j2.eq_2 _ _ _ _ _ _ _ _ k) (Ev.ifn k1 (Ev.ifn k8 (Ev.ifp k5 (Ev.bind0 (in_eq _ _ _) ?_)))), hstart _ (Ev.ifn k1 (tail_ev xs i hi _ k8 hp))⟩
    exact Ev.iff (fun c => Ev.leaf (by rw [if_pos c])) (fun c => Ev.leaf (by rw [if_neg c]))
  by_cases k2 : xs[i].f0 = 2
  · have hdd : xs[i].f1 < ((i + 1 : Nat) : Int) := by omega
    have ha : Ev (fun k => spec_l4Around.f k xs (i : Int) xs[i].f2) (aroundC xs (i + 1) xs[i].f2 xs[i].f1) := by
      refine Ev.congr (fun k => spec_l4Around.f.eq_1 k _ _ _) (Ev.ifp (by omega) (Ev.ifp (by omega) ?_))
      rw [rdCf_at hi]
      exact l4Around_ev xs i (by omega) hA (i + 1) _ _ hdd hpar
    have ho : Ev (fun k => impl_lambdaOut.f k xs (i : Int) xs[i].f2) (outT xs (aroundC xs (i + 1) xs[i].f2 xs[i].f1)) := by
      refine Ev.congr (fun k => impl_lambdaOut.f.eq_1 k _ _ _) (Ev.ifp (by omega) (Ev.ifp (by omega) ?_))
      rw [rdCf_at hi]
      exact lambdaOut_ev xs i (by omega) hA (i + 1) _ _ hdd hpar
    have hlt := around_lt xs i hA (i + 1) xs[i].f2 xs[i].f1 hpar
    have hfar : xs[i].f2 > 160 → aroundC xs (i + 1) xs[i].f2 xs[i].f1 = -1 := fun h => around_far xs i hA (i + 1) _ _ hpar (by omega) (by omega) hM.2
    generalize aroundC xs (i + 1) xs[i].f2 xs[i].f1 = p at ha ho hlt hfar
    have hp0 : Ev (fun k => spec_l4Place.f k xs (i : Int)) (if inB xs[i].f2 0 160 = true then (if 0 ≤ p then inB xs[i].f3 0 (wrap64 ((rd_T93 xs p).f2 - 1)) else false) else false) := by
      refine Ev.congr (fun k => spec_l4Place.f.eq_1 k _ _) (Ev.ifp (by omega) (Ev.ifp (by omega) ?_))
      rw [rdCf_at hi]
      refine Ev.ifn k5 (Ev.ifp k2 (Ev.bind0 (l1In_eq _ _ _) (Ev.iff (fun c => ?_) (fun c => Ev.leaf (by rw [if_neg c])))))
      rw [if_pos c]
      refine Ev.bind ha (Ev.iff (fun c1 => ?_) (fun c1 => Ev.leaf (by rw [if_neg c1])))
      have c1' : 0 ≤ p := c1
      rw [if_pos c1']
      exact Ev.ifp (by omega) (Ev.bind0 (l1In_eq _ _ _) (Ev.leaf (by rw [if_pos c1'])))
    refine ⟨_, Ev.step (fun k => impl_oneCoreFault.j2.eq_2 _ _ _ _ _ _ _ _ k) (Ev.ifn k1 (Ev.ifn k8 (Ev.ifn k5 (Ev.ifp k2 (Ev.bind ho ?_))))), hstart _ (Ev.ifn k1 (tail_ev xs i hi _ k8 hp0))⟩
    refine Ev.iff (fun c => Ev.leaf ?_) (fun c => ?_)
    · rw [if_neg (show ¬ inB xs[i].f2 0 160 = true from fun z => by have := inB_iff.mp z; omega)]; rfl
    · by_cases q : 0 ≤ p
      · have q2 : inB xs[i].f2 0 160 = true := inB_t (by omega) (by
          rcases Int.lt_or_le 160 xs[i].f2 with h | h
          · have := hfar h; omega
          · exact h)
        rw [if_pos q2, if_pos q]
        have e : outT xs p = ((rd_T93 xs p).f0, (rd_T93 xs p).f1, (rd_T93 xs p).f2, (rd_T93 xs p).f3, (rd_T93 xs p).f4, (rd_T93 xs p).f5, true) := if_pos q
        rw [e]
        exact Ev.ifp rfl (Ev.bind0 (in_eq _ _ _) (Ev.iff (fun c => Ev.leaf (by rw [if_pos c])) (fun c => Ev.leaf (by rw [if_neg c]))))
      · have e : outT xs p = (0, 0, 0, 0, ⟨#[]⟩, [], false) := if_neg q
        rw [e, if_neg q]
        exact Ev.ifn (by simp) (Ev.leaf (by split <;> rfl))
  · exact ⟨0, Ev.step (fun k => impl_oneCoreFault.j2.eq_2 _ _ _ _ _ _ _ _ k) (Ev.ifn k1 (Ev.ifn k8 (Ev.ifn k5 (Ev.ifn k2 (Ev.now _))))), hstart _ (Ev.ifn k1 (tail_ev xs i hi true k8 (place_else xs i hi k5 k2)))⟩
theorem core_j1 (xs : List S93) (i : Nat) (hi : i < xs.length) (hl : xs.length ≤ 160) (hA : AheadC xs i) (hpar : xs[i].f1 < i) (hd : okD xs[i].f5) (hs : xs[i].f4.size ≤ 9223372036854775807) (hM : -9223372036854775808 ≤ xs[i].f2 ∧ xs[i].f2 ≤ 9223372036854775807) (b : Bool) :
    ∃ c, Ev (fun k => impl_oneCoreFault.j1 k (i : Int) b xs xs[i].f0 xs[i].f1 xs[i].f2 xs[i].f3 xs[i].f4 xs[i].f5) c ∧ Ev (fun k => spec_l4One.j1 k xs (i : Int) b) c := by
  cases b
  · obtain ⟨c, h1, h2⟩ := core_j2 xs i hi hl hA hpar hd hM
    have hstart : ∀ c, Ev (fun k => (spec_l4Named.f xs[i].f0).bind fun t699 => (if t699 = true then ((spec_l4Name.f k xs[i].f4).bind fun t700 => (spec_l4One.j2 k xs (i : Int) (!t700))) else (spec_l4One.j2 k xs (i : Int) false))) c → Ev (fun k => spec_l4One.j1 k xs (i : Int) false) c := fun c h => by
      refine Ev.step (fun k => spec_l4One.j1.eq_2 _ _ _ k) (Ev.ifn (by simp) (Ev.ifp (by omega) (Ev.ifp (by omega) ?_)))
      rw [rdCf_at hi]
      exact h
    by_cases n : namedB xs[i].f0 = true
    · obtain ⟨q, n1, n2⟩ := name_ev xs[i].f4 hs
      cases q
      · exact ⟨5, Ev.step (fun k => impl_oneCoreFault.j1.eq_2 _ _ _ _ _ _ _ _ _ k) (Ev.ifn (by simp) (Ev.bind0 (implNamed_eq _) (Ev.ifp n (Ev.bind n1 (Ev.ifn (by simp) (Ev.now _)))))), hstart _ (Ev.bind0 (l4Named_eq _) (Ev.ifp n (Ev.bind n2 (Ev.step (fun k => spec_l4One.j2.eq_2 _ _ _ k) (Ev.ifp rfl (Ev.now _))))))⟩
      · exact ⟨c, Ev.step (fun k => impl_oneCoreFault.j1.eq_2 _ _ _ _ _ _ _ _ _ k) (Ev.ifn (by simp) (Ev.bind0 (implNamed_eq _) (Ev.ifp n (Ev.bind n1 (Ev.ifp rfl h1))))), hstart _ (Ev.bind0 (l4Named_eq _) (Ev.ifp n (Ev.bind n2 h2)))⟩
    · exact ⟨c, Ev.step (fun k => impl_oneCoreFault.j1.eq_2 _ _ _ _ _ _ _ _ _ k) (Ev.ifn (by simp) (Ev.bind0 (implNamed_eq _) (Ev.ifn n h1))), hstart _ (Ev.bind0 (l4Named_eq _) (Ev.ifn n h2))⟩
  · exact ⟨1, Ev.step (fun k => impl_oneCoreFault.j1.eq_2 _ _ _ _ _ _ _ _ _ k) (Ev.ifp rfl (Ev.now _)), Ev.step (fun k => spec_l4One.j1.eq_2 _ _ _ k) (Ev.ifp rfl (Ev.now _))⟩
def okCf (xs : List S93) : Prop := ∀ x ∈ xs, okD x.f5 ∧ x.f4.size ≤ 9223372036854775807 ∧ (-9223372036854775808 ≤ x.f2 ∧ x.f2 ≤ 9223372036854775807)
theorem core_one (xs : List S93) (hx : okCf xs) (i : Nat) (hi : i < xs.length) (hl : xs.length ≤ 160) (hA : AheadC xs i) :
    ∃ c, Ev (fun k => impl_oneCoreFault.f k xs (i : Int)) c ∧ Ev (fun k => spec_l4One.f k xs (i : Int)) c ∧ (c = 0 → xs[i].f1 < i) := by
  have hm := hx xs[i] (List.getElem_mem hi)
  have hI : ∀ c, Ev (fun k => (impl_coreForm.f xs[i].f0 xs[i].f1 xs[i].f2 xs[i].f3 xs[i].f4 xs[i].f5).bind fun t806 => (if t806 = true then (if (i : Int) = 0 then (if xs[i].f1 = (-1) then (if (i : Int) > 0 then ((impl_in.f xs[i].f1 0 (wrap64 ((i : Int) - 1))).bind fun t807 => (impl_oneCoreFault.j0 k (i : Int) (!t807) xs xs[i].f0 xs[i].f1 xs[i].f2 xs[i].f3 xs[i].f4 xs[i].f5)) else (impl_oneCoreFault.j0 k (i : Int) false xs xs[i].f0 xs[i].f1 xs[i].f2 xs[i].f3 xs[i].f4 xs[i].f5)) else (impl_oneCoreFault.j0 k (i : Int) true xs xs[i].f0 xs[i].f1 xs[i].f2 xs[i].f3 xs[i].f4 xs[i].f5)) else (if (i : Int) > 0 then ((impl_in.f xs[i].f1 0 (wrap64 ((i : Int) - 1))).bind fun t808 => (impl_oneCoreFault.j0 k (i : Int) (!t808) xs xs[i].f0 xs[i].f1 xs[i].f2 xs[i].f3 xs[i].f4 xs[i].f5)) else (impl_oneCoreFault.j0 k (i : Int) false xs xs[i].f0 xs[i].f1 xs[i].f2 xs[i].f3 xs[i].f4 xs[i].f5))) else (some 1))) c → Ev (fun k => impl_oneCoreFault.f k xs (i : Int)) c := fun c h => by
    refine Ev.congr (fun k => impl_oneCoreFault.f.eq_1 k _ _) (Ev.ifp (by omega) (Ev.ifp (by omega) ?_))
    rw [rdCf_at hi]
    exact h
  have hS : ∀ c, Ev (fun k => (spec_l4Bare.f xs[i].f0 xs[i].f1 xs[i].f2 xs[i].f3 xs[i].f4 xs[i].f5).bind fun t694 => (if t694 = true then (if (i : Int) = 0 then (if xs[i].f1 = (-1) then (if (i : Int) > 0 then ((spec_l1In.f xs[i].f1 0 (wrap64 ((i : Int) - 1))).bind fun t695 => (spec_l4One.j0 k xs (i : Int) (!t695))) else (spec_l4One.j0 k xs (i : Int) false)) else (spec_l4One.j0 k xs (i : Int) true)) else (if (i : Int) > 0 then ((spec_l1In.f xs[i].f1 0 (wrap64 ((i : Int) - 1))).bind fun t696 => (spec_l4One.j0 k xs (i : Int) (!t696))) else (spec_l4One.j0 k xs (i : Int) false))) else (some 1))) c → Ev (fun k => spec_l4One.f k xs (i : Int)) c := fun c h => by
    refine Ev.congr (fun k => spec_l4One.f.eq_1 k _ _) (Ev.ifp (by omega) (Ev.ifp (by omega) ?_))
    rw [rdCf_at hi]
    exact h
  by_cases f : formC xs[i].f0 xs[i].f2 xs[i].f3 xs[i].f4 xs[i].f5 = true
  · have b3 : Ev (fun k => impl_oneCoreFault.j0 k (i : Int) true xs xs[i].f0 xs[i].f1 xs[i].f2 xs[i].f3 xs[i].f4 xs[i].f5) 3 := Ev.step (fun k => impl_oneCoreFault.j0.eq_2 _ _ _ _ _ _ _ _ _ k) (Ev.ifp rfl (Ev.now _))
    have s3 : Ev (fun k => spec_l4One.j0 k xs (i : Int) true) 3 := Ev.step (fun k => spec_l4One.j0.eq_2 _ _ _ k) (Ev.ifp rfl (Ev.now _))
    by_cases z : (i : Int) = 0
    · by_cases r : xs[i].f1 = -1
      · obtain ⟨c, h1, h2⟩ := core_j1 xs i hi hl hA (by omega) hm.1 hm.2.1 hm.2.2 false
        exact ⟨c, hI _ (Ev.bind0 (coreForm_eq _ _ _ _ _ _) (Ev.ifp f (Ev.ifp z (Ev.ifp r (Ev.ifn (by omega) (Ev.step (fun k => impl_oneCoreFault.j0.eq_2 _ _ _ _ _ _ _ _ _ k) (Ev.ifn (by simp) (Ev.ifn (by omega) h1)))))))), hS _ (Ev.bind0 (l4Bare_eq _ _ _ _ _ _) (Ev.ifp f (Ev.ifp z (Ev.ifp r (Ev.ifn (by omega) (Ev.step (fun k => spec_l4One.j0.eq_2 _ _ _ k) (Ev.ifn (by simp) (Ev.ifn (by omega) h2)))))))), fun _ => by omega⟩
      · exact ⟨3, hI _ (Ev.bind0 (coreForm_eq _ _ _ _ _ _) (Ev.ifp f (Ev.ifp z (Ev.ifn r b3)))), hS _ (Ev.bind0 (l4Bare_eq _ _ _ _ _ _) (Ev.ifp f (Ev.ifp z (Ev.ifn r s3)))), fun h => by omega⟩
    · have w : wrap64 ((i : Int) - 1) = (i : Int) - 1 := wrap_id (by omega) (by omega)
      rw [w] at hI hS
      by_cases r : inB xs[i].f1 0 ((i : Int) - 1) = true
      · have hr := inB_iff.mp r
        obtain ⟨c, h1, h2⟩ := core_j1 xs i hi hl hA (by omega) hm.1 hm.2.1 hm.2.2 (!(upC xs (i + 1) ((i : Int) - 1) xs[i].f1))
        have u := isUpC_ev xs xs[i].f1 i (by omega) hA (i + 1) ((i : Int) - 1) (by omega) (by omega)
        have v := l4Line_ev xs (i : Int) (by omega) (by omega) i (by omega) hA (i + 1) ((i : Int) - 1) 0 (by omega) (by omega) (by omega) (by omega) (by omega)
        have e : parC xs (i : Int) = xs[i].f1 := by unfold parC; rw [rdCf_at hi]
        rw [e] at v
        refine ⟨c, hI _ (Ev.bind0 (coreForm_eq _ _ _ _ _ _) (Ev.ifp f (Ev.ifn z (Ev.ifp (by omega) (Ev.bind0 (in_eq _ _ _) ?_))))), hS _ (Ev.bind0 (l4Bare_eq _ _ _ _ _ _) (Ev.ifp f (Ev.ifn z (Ev.ifp (by omega) (Ev.bind0 (l1In_eq _ _ _) ?_))))), fun _ => by omega⟩
        · rw [r]
          refine Ev.step (fun k => impl_oneCoreFault.j0.eq_2 _ _ _ _ _ _ _ _ _ k) (Ev.ifn (by simp) (Ev.ifp (by omega) ?_))
          rw [w]
          exact Ev.bind (Ev.congr (fun k => impl_isUp__impl_oneCoreFault_1.f.eq_1 k _ _ _) u) h1
        · rw [r]
          refine Ev.step (fun k => spec_l4One.j0.eq_2 _ _ _ k) (Ev.ifn (by simp) (Ev.ifp (by omega) ?_))
          exact Ev.bind (Ev.congr (fun k => spec_l4Line.f.eq_1 k _ _) (by rw [w]; exact v)) h2
      · have r' : inB xs[i].f1 0 ((i : Int) - 1) = false := by simpa using r
        refine ⟨3, hI _ (Ev.bind0 (coreForm_eq _ _ _ _ _ _) (Ev.ifp f (Ev.ifn z (Ev.ifp (by omega) (Ev.bind0 (in_eq _ _ _) ?_))))), hS _ (Ev.bind0 (l4Bare_eq _ _ _ _ _ _) (Ev.ifp f (Ev.ifn z (Ev.ifp (by omega) (Ev.bind0 (l1In_eq _ _ _) ?_))))), fun h => by omega⟩
        · rw [r']; exact b3
        · rw [r']; exact s3
  · exact ⟨1, hI _ (Ev.bind0 (coreForm_eq _ _ _ _ _ _) (Ev.ifn f (Ev.now _))), hS _ (Ev.bind0 (l4Bare_eq _ _ _ _ _ _) (Ev.ifn f (Ev.now _))), fun h => by omega⟩
/-- How many from a place on have a parent. -/
def cntC (xs : List S93) (p : Int) : Nat → Nat → Nat
  | 0, _ => 0
  | d + 1, i => (if parC xs (i : Int) = p then 1 else 0) + cntC xs p d (i + 1)
theorem rdL_set (xs : List (List Int)) (j p : Nat) (v : List Int) (hj : j < xs.length) : rd_L8 (xs.set j v) (p : Int) = if p = j then v else rd_L8 xs (p : Int) := by
  by_cases e : p = j
  · subst e; simp [rd_L8, hj]
  · simp [rd_L8, e, List.getElem?_set, Ne.symm (show p ≠ j from e)]
theorem kids_ev (xs : List S93) (hl : xs.length ≤ 160) (hA : AheadC xs xs.length) : ∀ (d i : Nat) (acc : List (List Int)), i + d = xs.length → acc.length = xs.length → (∀ p : Nat, p < acc.length → (rd_L8 acc (p : Int)).length ≤ i) →
    ∃ r, Ev (fun k => impl_kids.l0 k acc xs (xs.length : Int) (i : Int)) r ∧ r.length = xs.length ∧ ∀ p : Nat, p < xs.length → (rd_L8 r (p : Int)).length = (rd_L8 acc (p : Int)).length + cntC xs (p : Int) d i
  | 0, i, acc, h, ha, hb => ⟨acc, Ev.step (fun k => impl_kids.l0.eq_2 _ _ _ _ k) (Ev.ifn (by omega) (Ev.now _)), ha, fun p hp => by simp [cntC]⟩
  | d + 1, i, acc, h, ha, hb => by
    have hi : i < xs.length := by omega
    have hpar : parC xs (i : Int) < i := hA i hi
    by_cases c : parC xs (i : Int) ≥ 0
    · obtain ⟨p0, hp0⟩ : ∃ p0 : Nat, (p0 : Int) = parC xs (i : Int) := ⟨(parC xs (i : Int)).toNat, Int.toNat_of_nonneg c⟩
      have hp1 : p0 < acc.length := by omega
      have hb0 := hb p0 hp1
      obtain ⟨r, h1, h2, h3⟩ := kids_ev xs hl hA d (i + 1) (acc.set p0 (rd_L8 acc (p0 : Int) ++ [(i : Int)])) (by omega) (by rw [List.length_set]; exact ha) (fun p hp => by
        rw [rdL_set acc p0 p _ hp1]
        rw [List.length_set] at hp
        have := hb p hp
        split
        · simp; omega
        · omega)
      refine ⟨r, Ev.step (fun k => impl_kids.l0.eq_2 _ _ _ _ k) (Ev.ifp (by omega) (Ev.ifp (by omega) (Ev.ifp (by omega) (Ev.ifp c (Ev.ifp c (Ev.ifp (show parC xs (i : Int) < (acc.length : Int) by omega) ?_)))))), h2, fun p hp => ?_⟩
      · have e : (rd_T93 xs (i : Int)).f1 = (p0 : Int) := hp0.symm
        rw [e, wrap_succ hi (by omega), Int.toNat_natCast]
        exact Ev.ifp (by omega) h1
      · rw [h3 p hp, rdL_set acc p0 p _ hp1]
        simp only [cntC]
        by_cases e : p = p0
        · subst e
          rw [if_pos rfl, if_pos hp0.symm]
          simp; omega
        · rw [if_neg e, if_neg (by omega)]
          omega
    · obtain ⟨r, h1, h2, h3⟩ := kids_ev xs hl hA d (i + 1) acc (by omega) ha (fun p hp => by have := hb p hp; omega)
      refine ⟨r, Ev.step (fun k => impl_kids.l0.eq_2 _ _ _ _ k) (Ev.ifp (by omega) (Ev.ifp (by omega) (Ev.ifp (by omega) (Ev.ifn c ?_)))), h2, fun p hp => ?_⟩
      · rw [wrap_succ hi (by omega)]; exact h1
      · rw [h3 p hp]
        simp only [cntC]
        rw [if_neg (by omega)]
        omega
theorem l4Kids_ev (xs : List S93) (hl : xs.length ≤ 160) (p : Int) : ∀ (d i : Nat) (acc : List Int), i + d = xs.length → acc.length ≤ i → ∃ r, Ev (fun k => spec_l4Kids.l0 k xs p acc (i : Int)) r ∧ r.length = acc.length + cntC xs p d i
  | 0, i, acc, h, ha => ⟨acc, Ev.step (fun k => spec_l4Kids.l0.eq_2 _ _ _ _ k) (Ev.ifn (by omega) (Ev.now _)), by simp [cntC]⟩
  | d + 1, i, acc, h, ha => by
    have hi : i < xs.length := by omega
    by_cases c : parC xs (i : Int) = p
    · obtain ⟨r, h1, h2⟩ := l4Kids_ev xs hl p d (i + 1) (acc ++ [(i : Int)]) (by omega) (by simp; omega)
      refine ⟨r, Ev.step (fun k => spec_l4Kids.l0.eq_2 _ _ _ _ k) (Ev.ifp (by omega) (Ev.ifp (by omega) (Ev.ifp c (Ev.ifp (by omega) ?_)))), ?_⟩
      · rw [wrap_succ hi (by omega)]; exact h1
      · rw [h2]; simp only [cntC]; rw [if_pos c]; simp; omega
    · obtain ⟨r, h1, h2⟩ := l4Kids_ev xs hl p d (i + 1) acc (by omega) (by omega)
      refine ⟨r, Ev.step (fun k => spec_l4Kids.l0.eq_2 _ _ _ _ k) (Ev.ifp (by omega) (Ev.ifp (by omega) (Ev.ifn c ?_))), ?_⟩
      · rw [wrap_succ hi (by omega)]; exact h1
      · rw [h2]; simp only [cntC]; rw [if_neg c]; omega
theorem many_ev (K n : Int) : ∃ b : Bool, Ev (fun k => impl_hasKids.f k K n) b ∧ Ev (fun k => spec_l4Many.f k K n) b := by
  have hj : ∀ x : Bool, ∃ b : Bool, Ev (fun k => impl_hasKids.j0 k n K x) b ∧ Ev (fun k => spec_l4Many.j0 k n K x) b := fun x => by
    cases x
    · by_cases k6 : K = 6
      · exact ⟨_, Ev.step (fun k => impl_hasKids.j0.eq_2 _ _ _ k) (Ev.ifn (by simp) (Ev.ifp k6 (Ev.now _))), Ev.step (fun k => spec_l4Many.j0.eq_2 _ _ _ k) (Ev.ifn (by simp) (Ev.ifp k6 (Ev.now _)))⟩
      · by_cases k9 : K = 9
        · refine ⟨inB n 1 4, Ev.step (fun k => impl_hasKids.j0.eq_2 _ _ _ k) (Ev.ifn (by simp) (Ev.ifn k6 (Ev.ifp k9 (Ev.bind0 (in_eq _ _ _) (Ev.now _))))), Ev.step (fun k => spec_l4Many.j0.eq_2 _ _ _ k) (Ev.ifn (by simp) (Ev.ifn k6 (Ev.ifp k9 (Ev.iff (fun c => Ev.leaf ?_) (fun c => Ev.leaf ?_)))))⟩
          · unfold inB; rw [decide_eq_true (show (1 : Int) ≤ n from c)]; simp
          · unfold inB; rw [decide_eq_false (show ¬ (1 : Int) ≤ n from c)]; simp
        · exact ⟨_, Ev.step (fun k => impl_hasKids.j0.eq_2 _ _ _ k) (Ev.ifn (by simp) (Ev.ifn k6 (Ev.ifn k9 (Ev.now _)))), Ev.step (fun k => spec_l4Many.j0.eq_2 _ _ _ k) (Ev.ifn (by simp) (Ev.ifn k6 (Ev.ifn k9 (Ev.now _))))⟩
    · exact ⟨_, Ev.step (fun k => impl_hasKids.j0.eq_2 _ _ _ k) (Ev.ifp rfl (Ev.now _)), Ev.step (fun k => spec_l4Many.j0.eq_2 _ _ _ k) (Ev.ifp rfl (Ev.now _))⟩
  by_cases k4 : K = 4
  · exact ⟨_, Ev.congr (fun k => impl_hasKids.f.eq_1 k _ _) (Ev.ifp k4 (Ev.now _)), Ev.congr (fun k => spec_l4Many.f.eq_1 k _ _) (Ev.ifp k4 (Ev.now _))⟩
  by_cases k5 : K = 5
  · obtain ⟨b, h1, h2⟩ := hj (K == 5)
    exact ⟨b, Ev.congr (fun k => impl_hasKids.f.eq_1 k _ _) (Ev.ifn k4 (Ev.ifp k5 h1)), Ev.congr (fun k => spec_l4Many.f.eq_1 k _ _) (Ev.ifn k4 (Ev.ifp k5 h2))⟩
  by_cases k7 : K = 7
  · obtain ⟨b, h1, h2⟩ := hj (K == 7)
    exact ⟨b, Ev.congr (fun k => impl_hasKids.f.eq_1 k _ _) (Ev.ifn k4 (Ev.ifn k5 (Ev.ifp k7 h1))), Ev.congr (fun k => spec_l4Many.f.eq_1 k _ _) (Ev.ifn k4 (Ev.ifn k5 (Ev.ifp k7 h2)))⟩
  · obtain ⟨b, h1, h2⟩ := hj (K == 8)
    exact ⟨b, Ev.congr (fun k => impl_hasKids.f.eq_1 k _ _) (Ev.ifn k4 (Ev.ifn k5 (Ev.ifn k7 h1))), Ev.congr (fun k => spec_l4Many.f.eq_1 k _ _) (Ev.ifn k4 (Ev.ifn k5 (Ev.ifn k7 h2)))⟩
theorem second_ev (xs : List S93) (hl : xs.length ≤ 160) (r : List (List Int)) (hr : r.length = xs.length) (hc : ∀ p : Nat, p < xs.length → (rd_L8 r (p : Int)).length = cntC xs (p : Int) xs.length 0) : ∀ (d i : Nat), i + d = xs.length →
    ∃ v, Ev (fun k => impl_CoreFault.l1 k xs r (r.length : Int) (i : Int)) v ∧ Ev (fun k => spec_l4Fault.l1 k xs (i : Int)) v
  | 0, i, h => ⟨0, Ev.step (fun k => impl_CoreFault.l1.eq_2 _ _ _ _ k) (Ev.ifn (by omega) (Ev.now _)), Ev.step (fun k => spec_l4Fault.l1.eq_2 _ _ k) (Ev.ifn (by omega) (Ev.now _))⟩
  | d + 1, i, h => by
    have hi : i < xs.length := by omega
    obtain ⟨v, v1, v2⟩ := second_ev xs hl r hr hc d (i + 1) (by omega)
    obtain ⟨q, q1, q2⟩ := l4Kids_ev xs hl (i : Int) xs.length 0 [] (by omega) (by simp)
    rw [List.length_nil, Nat.zero_add] at q2
    have hq := hc i hi
    obtain ⟨b, b1, b2⟩ := many_ev (rd_T93 xs (i : Int)).f0 ((rd_L8 r (i : Int)).length : Int)
    have q3 : (q.length : Int) = ((rd_L8 r (i : Int)).length : Int) := by omega
    rw [← q3] at b2
    cases b
    · exact ⟨1, Ev.step (fun k => impl_CoreFault.l1.eq_2 _ _ _ _ k) (Ev.ifp (by omega) (Ev.ifp (by omega) (Ev.ifp (by omega) (Ev.ifp (by omega) (Ev.bind b1 (Ev.ifn (by simp) (Ev.now _))))))), Ev.step (fun k => spec_l4Fault.l1.eq_2 _ _ k) (Ev.ifp (by omega) (Ev.ifp (by omega) (Ev.bind (Ev.congr (fun k => spec_l4Kids.f.eq_1 k _ _) q1) (Ev.bind b2 (Ev.ifn (by simp) (Ev.now _))))))⟩
    · rw [← wrap_succ hi (by omega)] at v1 v2
      exact ⟨v, Ev.step (fun k => impl_CoreFault.l1.eq_2 _ _ _ _ k) (Ev.ifp (by omega) (Ev.ifp (by omega) (Ev.ifp (by omega) (Ev.ifp (by omega) (Ev.bind b1 (Ev.ifp rfl v1)))))), Ev.step (fun k => spec_l4Fault.l1.eq_2 _ _ k) (Ev.ifp (by omega) (Ev.ifp (by omega) (Ev.bind (Ev.congr (fun k => spec_l4Kids.f.eq_1 k _ _) q1) (Ev.bind b2 (Ev.ifp rfl v2)))))⟩
theorem rdL_zero (n p : Nat) : (rd_L8 (List.replicate n ([] : List Int)) (p : Int)).length = 0 := by
  by_cases h : p < n <;> simp [rd_L8, h]
theorem first_ev (xs : List S93) (hx : okCf xs) (hl : xs.length ≤ 160) : ∀ (d i : Nat), i + d = xs.length → AheadC xs i →
    ∃ v, Ev (fun k => impl_CoreFault.l0 k xs (xs.length : Int) (i : Int)) v ∧ Ev (fun k => spec_l4Fault.l0 k xs (i : Int)) v
  | 0, i, h, hA => by
    have e : i = xs.length := by omega
    subst e
    obtain ⟨r, r1, r2, r3⟩ := kids_ev xs hl hA xs.length 0 (List.replicate xs.length []) (by omega) (by simp) (fun p hp => by rw [rdL_zero]; omega)
    obtain ⟨v, v1, v2⟩ := second_ev xs hl r r2 (fun p hp => by rw [r3 p hp, rdL_zero]; omega) xs.length 0 (by omega)
    refine ⟨v, Ev.step (fun k => impl_CoreFault.l0.eq_2 _ _ _ k) (Ev.ifn (by omega) (Ev.bind (Ev.congr (fun k => impl_kids.f.eq_1 k _) (Ev.ifp (by omega) (Ev.ifp (by omega) ?_))) v1)), Ev.step (fun k => spec_l4Fault.l0.eq_2 _ _ k) (Ev.ifn (by omega) v2)⟩
    rw [Int.toNat_natCast]
    exact r1
  | d + 1, i, h, hA => by
    have hi : i < xs.length := by omega
    obtain ⟨c, c1, c2, c3⟩ := core_one xs hx i hi hl hA
    by_cases z : c = 0
    · have hp := c3 z
      obtain ⟨v, v1, v2⟩ := first_ev xs hx hl d (i + 1) (by omega) (fun j hj => by
        by_cases e : j = i
        · subst e; unfold parC; rw [rdCf_at hi]; exact hp
        · exact hA j (by omega))
      rw [← wrap_succ hi (by omega)] at v1 v2
      exact ⟨v, Ev.step (fun k => impl_CoreFault.l0.eq_2 _ _ _ k) (Ev.ifp (by omega) (Ev.bind c1 (Ev.ifp z v1))), Ev.step (fun k => spec_l4Fault.l0.eq_2 _ _ k) (Ev.ifp (by omega) (Ev.bind c2 (Ev.ifp z v2)))⟩
    · exact ⟨c, Ev.step (fun k => impl_CoreFault.l0.eq_2 _ _ _ k) (Ev.ifp (by omega) (Ev.bind c1 (Ev.ifn z (Ev.now _)))), Ev.step (fun k => spec_l4Fault.l0.eq_2 _ _ k) (Ev.ifp (by omega) (Ev.bind c2 (Ev.ifn z (Ev.now _))))⟩
theorem coreFault_ev (xs : List S93) (hx : okCf xs) (hl : xs.length ≤ 1048576) : ∃ v, Ev (fun k => impl_CoreFault.f k xs) v ∧ Ev (fun k => spec_l4Fault.f k xs) v := by
  by_cases a : (xs.length : Int) < 1
  · refine ⟨2, Ev.congr (fun k => impl_CoreFault.f.eq_1 k _) (Ev.bind0 (in_eq _ _ _) (Ev.ifn (fun z => by have := inB_iff.mp z; omega) (Ev.now _))), Ev.congr (fun k => spec_l4Fault.f.eq_1 k _) (Ev.ifp a (Ev.step (fun k => spec_l4Fault.j0.eq_2 _ _ k) (Ev.ifp rfl (Ev.now _))))⟩
  · by_cases b : (xs.length : Int) > 160
    · exact ⟨2, Ev.congr (fun k => impl_CoreFault.f.eq_1 k _) (Ev.bind0 (in_eq _ _ _) (Ev.ifn (fun z => by have := inB_iff.mp z; omega) (Ev.now _))), Ev.congr (fun k => spec_l4Fault.f.eq_1 k _) (Ev.ifn a (Ev.step (fun k => spec_l4Fault.j0.eq_2 _ _ k) (Ev.ifp (decide_eq_true b) (Ev.now _))))⟩
    · obtain ⟨v, v1, v2⟩ := first_ev xs hx (by omega) xs.length 0 (by omega) (fun j hj => by omega)
      exact ⟨v, Ev.congr (fun k => impl_CoreFault.f.eq_1 k _) (Ev.bind0 (in_eq _ _ _) (Ev.ifp (inB_t (by omega) (by omega)) v1)), Ev.congr (fun k => spec_l4Fault.f.eq_1 k _) (Ev.ifn a (Ev.step (fun k => spec_l4Fault.j0.eq_2 _ _ k) (Ev.ifn (fun z => b (of_decide_eq_true z)) v2)))⟩
end Go.Proofs.YtcliaceiijaafaaDoor.C
