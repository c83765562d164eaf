/- Walks of the program's functions: each Go function's answer as a plain Lean function, and that the call comes to it. Written by a program. Conditions: those in each theorem's own head. -/
import Derived.Test.YteiokhfikbndbaaGreatDoorA0
namespace Go.Proofs.YteiokhfikbndbaaGreatDoor.A
open Go.RowKit Go.Proofs.YteiokhfikbndbaaGreatDoorW.PrintWords Go.Proofs.YteiokhfikbndbaaGreatDoorW.PrintLast Go.Proofs.YteiokhfikbndbaaGreatDoorW.PrintMore
attribute [local go_sem] max2_int min2_int max_two min_two max_three min_three max_four min_four   -- for this text's walks alone
set_option linter.unusedVariables false
set_option linter.unusedSimpArgs false

theorem d2_1 {p : Prop} (h : p := by (try simp only [List.map_toArray, List.map_cons, List.map_nil]); first | done | rfl | (simp only [List.length_drop, List.length_take]; rfl)) : p := h
theorem d2_2 {p : Prop} (h : p := by repeat (first | (with_reducible first | exact HB.out | apply below_alloc | apply pw_below_drewN | apply below_drew1 | refine below_set ?_ (IsS85.ge HI111.out)) | exact HB.out)) : p := h
theorem d2_3 {p : Prop} (h : p := by first | rfl | (simp; done) | (simp [*]; done) | (simp [ne_nil_b, eq_nil_b]; done)) : p := h
theorem d2_4 {p : Prop} (h : p := by repeat (first | (with_reducible first | exact HB.out | apply below_alloc | apply pw_below_drewN | apply below_drew1) | exact HB.out)) : p := h
theorem d2_5 {p : Prop} (h : p := by repeat (first | (with_reducible first | exact HI111.out | apply IsS85.alloc | apply IsS85.drewN | apply IsS85.drew | apply IsS85.set_1) | exact HI111.out)) : p := h
theorem d2_6 {p : Prop} (h : p := by first | (with_reducible assumption) | assumption) : p := h
theorem c2_1 {p : Prop} (h : p := by repeat (first | (with_reducible first | exact HB.out | apply below_alloc | apply pw_below_drewN | apply below_drew1 | refine below_set ?_ (IsS85.ge HI111.out)) | exact HB.out)) : p := h
theorem c2_2 {p : Prop} (h : p := by repeat (first | (with_reducible first | exact HI111.out | apply IsS85.alloc | apply IsS85.drewN | apply IsS85.drew | apply IsS85.set_1) | exact HI111.out)) : p := h
theorem c2_3 {p : Prop} (h : p := by repeat (first | (with_reducible first | exact HB.out | apply below_alloc | apply pw_below_drewN | apply below_drew1 | refine below_set ?_ (IsS85.ge HI0.out)) | exact HB.out)) : p := h
theorem c2_4 {p : Prop} (h : p := by repeat (first | (with_reducible first | exact HI0.out | apply IsS85.alloc | apply IsS85.drewN | apply IsS85.drew | apply IsS85.set_1) | exact HI0.out)) : p := h
theorem c2_5 {p : Prop} (h : p := by first | rfl | (simp [errW_none, errW_some] <;> rfl) | (simp [*, errW_none, errW_some] <;> rfl)) : p := h
theorem c2_6 {p : Prop} (h : p := by repeat (first | (with_reducible first | exact HK.out | apply KeepBut.set_ | apply keep_drewN | apply keep_drew | apply keep_alloc) | exact HK.out)) : p := h
theorem c2_7 {p : Prop} (h : p := by repeat (first | (with_reducible first | exact HB.out | apply below_alloc | apply pw_below_drewN | apply below_drew1) | exact HB.out)) : p := h
set_option maxHeartbeats 8000000
set_option maxRecDepth 100000

/-! ### laws_lwBig: function 5 -/
def laws_lwBig.f (l0 : List Int) : Option (Bool) := some (decide ((l0.length : Int) > 1048576))
theorem laws_lwBig.calls (A0 : Option Addr) (c0 : Nat) (l0 : List Int) (r : Bool) (w : World) (hr0 : Kd.C (Kd.int .u8) w A0 l0.length l0) (hc0 : l0.length ≤ c0) (h : laws_lwBig.f l0 = some r) :
    Calls Tryz.prog 5 #[.slice A0 l0.length c0] w fun e w' => e = .returned (.bool r) ∧ Drawn0 w w' := by
  have HR0 := ak hr0; have HC0 := ak hc0; clear hr0 hc0; have H := h; clear h; unfold laws_lwBig.f at H; obtain rfl := Option.some.inj H; go_enter Tryz.func5, Tryz.ntmps5; go_wp2; go_ret; exact ⟨by first | rfl | (simp; done) | (simp [*]; done) | (simp [ne_nil_b, eq_nil_b]; done), by repeat (first | exact Drawn0.refl _ | apply Drawn0.step)⟩

/-- A state of type 85 at block g of W; what its slices lead to came in by w0. -/
def IsS85 (w0 W : World) (g : Nat) (f0 : List Int) (f1 : Int) : Prop := ∃ A0 c0, W.heap[g]? = some (.cells #[.slice A0 f0.length c0, .int .i64 f1] 85 (0, 0)) ∧ w0.heap.size ≤ g ∧ Kd.C (Kd.int .u8) w0 A0 f0.length f0
theorem IsS85.grown {w0 W : World} {g : Nat} {f0 : List Int} {f1 : Int} {W1 : World} {row : Option Nat} (h : IsS85 w0 W g f0 f1) (hw : W.grownBy W1 row) (hne : some g ≠ row) : IsS85 w0 W1 g f0 f1 := by
  obtain ⟨A0, c0, hb, hg, hr0⟩ := h; exact ⟨A0, c0, blk_grown hb hw hne, hg, hr0⟩
theorem IsS85.own_neN {w0 W : World} {g : Nat} {f0 : List Int} {f1 : Int} {α : Type} {d : Kd α} {e : Nat} {base : Nat} {ok : Nat → Prop} {v : Value} {xs : List α} (h : IsS85 w0 W g f0 f1) (ho : Kd.N d e W base ok v xs) (ht : e ≠ 85) : some g ≠ v.ownBlock := by
  obtain ⟨A0, c0, hb, hg, hr0⟩ := h; exact Kd.N_ne ho hb ht
theorem IsS85.fresh {w0 W : World} {g : Nat} {f0 : List Int} {f1 : Int} (h : IsS85 w0 W g f0 f1) : ∀ k, W.heap.size ≤ k → k ≠ g := by
  obtain ⟨A0, c0, hb, hg, hr0⟩ := h; exact Kd.freshB hb
theorem IsS85.kept {w0 W : World} {g : Nat} {f0 : List Int} {f1 : Int} {W1 : World} {S : Nat → Prop} (h : IsS85 w0 W g f0 f1) (hk : Kept W W1 S) (hne : ¬ S g) : IsS85 w0 W1 g f0 f1 := by
  obtain ⟨A0, c0, hb, hg, hr0⟩ := h; exact ⟨A0, c0, blk_kept hb hk hne, hg, hr0⟩
theorem IsS85.below {w0 W : World} {g : Nat} {f0 : List Int} {f1 : Int} {W1 : World} (h : IsS85 w0 W g f0 f1) (hw : Below W.heap.size W W1) : IsS85 w0 W1 g f0 f1 := h.grown (grown_of_below hw none) (by simp)
theorem IsS85.alloc {w0 W : World} {g : Nat} {f0 : List Int} {f1 : Int} (h : IsS85 w0 W g f0 f1) (o : Obj) : IsS85 w0 (W.alloc o) g f0 f1 := h.below (below_alloc (Below.refl _ _) o)
theorem IsS85.drewN {w0 W : World} {g : Nat} {f0 : List Int} {f1 : Int} (h : IsS85 w0 W g f0 f1) (m : Nat) : IsS85 w0 (W.drewN m) g f0 f1 := h
theorem IsS85.drew {w0 W : World} {g : Nat} {f0 : List Int} {f1 : Int} (h : IsS85 w0 W g f0 f1) : IsS85 w0 W.drew g f0 f1 := h
theorem IsS85.at_ {w0 W : World} {g : Nat} {f0 : List Int} {f1 : Int} {w' : World} {m : Nat} (hq : W.drewN m = w') (h : IsS85 w0 W g f0 f1) : IsS85 w0 w' g f0 f1 := by subst hq; exact IsS85.drewN h m
theorem IsS85.apart {w0 W : World} {g : Nat} {f0 : List Int} {f1 : Int} {α : Type} {d : Kd α} {e : Nat} {base : Nat} {ok : Nat → Prop} {v : Value} {xs : List α} (h : IsS85 w0 W g f0 f1) (ho : d.R e W base ok v xs) (ht : ∀ q, q ∈ e :: d.E → q ≠ 85) : d.R e W base (fun k => ok k ∧ k ≠ g) v xs := by
  obtain ⟨A0, c0, hb, hg, hr0⟩ := h; exact Kd.R_types ho hb ht
theorem IsS85.own_ne {w0 W : World} {g : Nat} {f0 : List Int} {f1 : Int} {α : Type} {d : Kd α} {e : Nat} {base : Nat} {ok : Nat → Prop} {v : Value} {xs : List α} (h : IsS85 w0 W g f0 f1) (ho : d.R e W base ok v xs) (ht : e ≠ 85) : some g ≠ v.ownBlock := by
  obtain ⟨A0, c0, hb, hg, hr0⟩ := h; exact Kd.R_ne ho hb ht
theorem IsS85.apartQ {w0 W : World} {g : Nat} {f0 : List Int} {f1 : Int} {α : Type} {d : Kd α} {e : Nat} {base : Nat} {ok : Nat → Prop} {v : Value} {xs : List α} (h : IsS85 w0 W g f0 f1) (ho : d.Q e W base ok v xs) (ht : ∀ q, q ∈ e :: d.E → q ≠ 85) : d.Q e W base (fun k => ok k ∧ k ≠ g) v xs := by
  obtain ⟨A0, c0, hb, hg, hr0⟩ := h; exact Kd.Q_types ho hb ht
theorem IsS85.own_neQ {w0 W : World} {g : Nat} {f0 : List Int} {f1 : Int} {α : Type} {d : Kd α} {e : Nat} {base : Nat} {ok : Nat → Prop} {v : Value} {xs : List α} (h : IsS85 w0 W g f0 f1) (ho : d.Q e W base ok v xs) (ht : e ≠ 85) : some g ≠ v.ownBlock := by
  obtain ⟨A0, c0, hb, hg, hr0⟩ := h; exact Kd.Q_ne ho hb ht
theorem IsS85.apartS {w0 W : World} {g : Nat} {f0 : List Int} {f1 : Int} {α : Type} {d : Kd α} {e : Nat} {base : Nat} {ok : Nat → Prop} {v : Value} {xs : List α} (h : IsS85 w0 W g f0 f1) (ho : d.S e W base ok v xs) (ht : ∀ q, q ∈ e :: d.E → q ≠ 85) : d.S e W base (fun k => ok k ∧ k ≠ g) v xs := by
  obtain ⟨A0, c0, hb, hg, hr0⟩ := h; exact Kd.S_types ho hb ht
theorem IsS85.own_neS {w0 W : World} {g : Nat} {f0 : List Int} {f1 : Int} {α : Type} {d : Kd α} {e : Nat} {base : Nat} {ok : Nat → Prop} {v : Value} {xs : List α} (h : IsS85 w0 W g f0 f1) (ho : d.S e W base ok v xs) (ht : e ≠ 85) : some g ≠ v.ownBlock := by
  obtain ⟨A0, c0, hb, hg, hr0⟩ := h; exact Kd.S_ne ho hb ht
theorem IsS85.lt {w0 W : World} {g : Nat} {f0 : List Int} {f1 : Int} (h : IsS85 w0 W g f0 f1) : g < W.heap.size := by
  obtain ⟨A0, c0, hb, hg, hr0⟩ := h; exact blk_lt hb
theorem IsS85.ge {w0 W : World} {g : Nat} {f0 : List Int} {f1 : Int} (h : IsS85 w0 W g f0 f1) : w0.heap.size ≤ g := by
  obtain ⟨A0, c0, hb, hg, hr0⟩ := h; exact hg
theorem IsS85.ne_blk {w0 W : World} {g : Nat} {f0 : List Int} {f1 : Int} {a : Nat} {cs : Array Value} {t : TypeId} {fr : Nat × Nat} (h : IsS85 w0 W g f0 f1) (hb2 : W.heap[a]? = some (.cells cs t fr)) (ht : t ≠ 85) : g ≠ a := by
  obtain ⟨A0, c0, hb, hg, hr0⟩ := h; rintro rfl; rw [hb] at hb2; injection hb2 with hb2; injection hb2 with _ ht2; exact ht ht2.symm
theorem IsS85.far {w0 W : World} {g : Nat} {f0 : List Int} {f1 : Int} {p : Addr} (h : IsS85 w0 W g f0 f1) (hne : g ≠ p.block) (u : Value) : IsS85 w0 (W.setCell p u) g f0 f1 := by
  obtain ⟨A0, c0, hb, hg, hr0⟩ := h; exact ⟨A0, c0, blk_far hb hne u, hg, hr0⟩
theorem cellS85_0 {W : World} {g : Nat} {A0 : Option Addr} {c0 : Nat} {f0 : List Int} {f1 : Int} (h : W.heap[g]? = some (.cells #[.slice A0 f0.length c0, .int .i64 f1] 85 (0, 0))) : W.cell? ⟨g, 0, none⟩ = some (.slice A0 f0.length c0) := (blk_cell h 0).trans rfl
theorem cellS85_1 {W : World} {g : Nat} {A0 : Option Addr} {c0 : Nat} {f0 : List Int} {f1 : Int} (h : W.heap[g]? = some (.cells #[.slice A0 f0.length c0, .int .i64 f1] 85 (0, 0))) : W.cell? ⟨g, 1, none⟩ = some (.int .i64 f1) := (blk_cell h 1).trans rfl
theorem IsS85.set_1 {w0 W : World} {g : Nat} {f0 : List Int} {f1 : Int} (h : IsS85 w0 W g f0 f1) (x : Int) : IsS85 w0 (W.setCell ⟨g, 1, none⟩ (.int .i64 x)) g f0 x := by
  obtain ⟨A0, c0, hb, hg, hr0⟩ := h; exact ⟨A0, c0, by simpa using blk_set hb 1 (.int .i64 x), hg, hr0⟩
theorem IsS85.new (w0 W : World) (A0 : Option Addr) (c0 : Nat) (f0 : List Int) (f1 : Int) (hB : Below w0.heap.size w0 W) (hr0 : Kd.C (Kd.int .u8) w0 A0 f0.length f0) : IsS85 w0 (W.alloc (.cells #[.slice A0 f0.length c0, .int .i64 f1] 85)) W.heap.size f0 f1 := ⟨A0, c0, by simpa using heap_alloc_new W _, hB.size, hr0⟩

/-! ### spec_l1Source: function 23 -/
def spec_l1Source.f (l0 : List Int) : Option (List Int × Int) := some (l0, 0)
theorem spec_l1Source.calls (A0 : Option Addr) (c0 : Nat) (l0 : List Int) (r1 : List Int) (r2 : Int) (w0 w : World) (hB : Below w0.heap.size w0 w) (hr0 : Kd.C (Kd.int .u8) w0 A0 l0.length l0) (hc0 : l0.length ≤ c0) (h : spec_l1Source.f l0 = some (r1, r2)) :
    Calls Tryz.prog 23 #[.slice A0 l0.length c0] w fun e w' => ∃ g_ : Nat, e = .returned (.pointer (some ⟨g_, 0, none⟩)) ∧ IsS85 w0 w' g_ r1 r2 ∧ Below w0.heap.size w0 w' ∧ Below w.heap.size w w' := by
  have hu85 := Tryz.underlying85; have HR0 := ak hr0; have HC0 := ak hc0; clear hr0 hc0; have HBW := ak (Below.refl w.heap.size w); have HW0 := ak hB.size; have HB := ak hB; clear hB; have H := h; clear h; unfold spec_l1Source.f at H; simp only [Option.some.injEq, Prod.mk.injEq] at H; obtain ⟨rfl, rfl⟩ := H; go_enter Tryz.func23, Tryz.ntmps23; go_wp2_with (first | ((with_reducible refine gate_dst (N := 5) rfl ?_); refine box_event ?hg (N := 5) ?hd (cs := #[.slice A0 l0.length c0, .int .i64 0]) (t := 85) ?hr ?_; (case hd => rfl); (case hg => rfl); (case hr => first | (go_simp; done) | (go_simp; rfl)); intro gb101 hg w2 hbox hb; have n0_ := ak (below_step HBW.out hb); have n1_ := ak (below_step d2_4 hb); have n2_ := ak (hbox); have n3_ := ak ((by rw [hg]; exact (below_size (by repeat (first | (with_reducible first | exact HBW.out | apply below_alloc | apply pw_below_drewN | apply below_drew1) | exact HBW.out))) : w.heap.size ≤ gb101)); have n4_ := ak ((Nat.le_trans HW0.out (by rw [hg]; exact (below_size (by repeat (first | (with_reducible first | exact HBW.out | apply below_alloc | apply pw_below_drewN | apply below_drew1) | exact HBW.out))) : w.heap.size ≤ gb101) : w0.heap.size ≤ gb101)); clear HBW HB; have HBW := n0_; have HB := n1_; have BK101 := n2_; have GW101 := n3_; have GE101 := n4_; clear n0_ n1_ n2_ n3_ n4_ hb hbox hg)); go_ret
  exact ⟨_, rfl, (show IsS85 w0 _ gb101 l0 0 from ⟨_, _, by (with_reducible repeat (first | refine blk_drewN ?_ _ | refine blk_drew ?_ | refine blk_alloc ?_ _)); exact BK101.out, GE101.out, HR0.out⟩), by repeat (first | (with_reducible first | exact HB.out | apply below_alloc | apply pw_below_drewN | apply below_drew1 | refine below_set ?_ GE101.out) | exact HB.out), by repeat (first | (with_reducible first | exact HBW.out | apply below_alloc | apply pw_below_drewN | apply below_drew1 | refine below_set ?_ GW101.out) | exact HBW.out)⟩

/-! ### spec_l1Next: function 24 -/
def spec_l1Next.f (s0_0 : List Int) (s0_1 : Int) (a1 : Int) : Option (Int × Int) := if a1 < 1 then (some (0, wrap64 (s0_1 + 1))) else (if (s0_0.length : Int) = 0 then (if a1 = 0 then (none) else (some (Int.tmod (wrap64 ((wrap64 ((wrap64 (s0_1 + 1)) - 1)) * 7)) a1, wrap64 (s0_1 + 1)))) else (if 0 ≤ (Int.tmod (wrap64 ((wrap64 (s0_1 + 1)) - 1)) (s0_0.length : Int)) then (if (Int.tmod (wrap64 ((wrap64 (s0_1 + 1)) - 1)) (s0_0.length : Int)) < (s0_0.length : Int) then (if a1 > 200 then (if 0 ≤ (Int.tmod (wrap64 ((wrap64 ((wrap64 (s0_1 + 1)) - 1)) + 1)) (s0_0.length : Int)) then (if (Int.tmod (wrap64 ((wrap64 ((wrap64 (s0_1 + 1)) - 1)) + 1)) (s0_0.length : Int)) < (s0_0.length : Int) then (if a1 = 0 then (none) else (some (Int.tmod (wrap64 ((wrap64 ((wrap64 ((wrap64 ((wrap64 (rd s0_0 (Int.tmod (wrap64 ((wrap64 (s0_1 + 1)) - 1)) (s0_0.length : Int)))) + (wrap64 ((wrap64 (Int.tdiv (wrap64 ((wrap64 (s0_1 + 1)) - 1)) (s0_0.length : Int))) * 37)))) * 251)) + (wrap64 ((wrap64 (rd s0_0 (Int.tmod (wrap64 ((wrap64 ((wrap64 (s0_1 + 1)) - 1)) + 1)) (s0_0.length : Int)))) * 13)))) + (wrap64 ((wrap64 (s0_1 + 1)) - 1)))) a1, wrap64 (s0_1 + 1)))) else (none)) else (none)) else (if a1 = 0 then (none) else (some (Int.tmod (wrap64 ((wrap64 (rd s0_0 (Int.tmod (wrap64 ((wrap64 (s0_1 + 1)) - 1)) (s0_0.length : Int)))) + (wrap64 ((wrap64 (Int.tdiv (wrap64 ((wrap64 (s0_1 + 1)) - 1)) (s0_0.length : Int))) * 37)))) a1, wrap64 (s0_1 + 1))))) else (none)) else (none)))
theorem spec_l1Next.calls (g : Nat) (s0_0 : List Int) (s0_1 : Int) (a1 : Int) (r1 : Int) (r2 : Int) (w0 w : World) (hI : IsS85 w0 w g s0_0 s0_1) (hB : Below w0.heap.size w0 w) (h : spec_l1Next.f s0_0 s0_1 a1 = some (r1, r2)) :
    Calls Tryz.prog 24 #[.pointer (some ⟨g, 0, none⟩), .int .i64 a1] w fun e w' => e = .returned (.int .i64 r1) ∧ IsS85 w0 w' g s0_0 r2 ∧ Below w0.heap.size w0 w' ∧ KeepBut w w' g none := by
  have HI0 := ak hI; have HK := ak (KeepBut.refl w g none); have HL := ak hB.size; clear hI; have HW0 := ak hB.size; have HB := ak hB; clear hB
  have H := h; clear h; unfold spec_l1Next.f at H; by_cases c3 : a1 < 1
  ·rw [if_pos c3] at H
   have c3b0 : decide (a1 < 1) = true := decide_eq_true c3; clear c3; simp only [Option.some.injEq, Prod.mk.injEq] at H; obtain ⟨rfl, rfl⟩ := H; obtain ⟨ASz4_0, cSz4_0, HGz4, hgz4, HSz4_0⟩ := HI0.out; have hcz4_0 := cellS85_0 HGz4; have hcz4_1 := cellS85_1 HGz4; have hfz4_1 := blk_frozen HGz4 1; clear HGz4 hgz4; go_enter Tryz.func24, Tryz.ntmps24; go_wp2
   repeat (go_quiet (fail); try go_wp2)
   go_ret; exact ⟨c2_5, c2_4, c2_3, c2_6⟩
  ·rw [if_neg c3] at H
   have c3b0 : decide (a1 < 1) = false := decide_eq_false c3; clear c3; by_cases c5 : (s0_0.length : Int) = 0
   ·rw [if_pos c5] at H
    have c5b0 : ((s0_0.length : Int) == 0) = true := beq_iff_eq.mpr c5; have c5b1 : ((s0_0.length : Int) != 0) = false := bne_eq_false_iff_eq.mpr c5; clear c5; by_cases c6 : a1 = 0
    ·rw [if_pos c6] at H
     exact absurd H (by simp)
    ·rw [if_neg c6] at H
     have c6b0 : (a1 == 0) = false := beq_eq_false_iff_ne.mpr c6; have c6b1 : (a1 != 0) = true := bne_iff_ne.mpr c6; simp only [Option.some.injEq, Prod.mk.injEq] at H; obtain ⟨rfl, rfl⟩ := H; obtain ⟨ASz7_0, cSz7_0, HGz7, hgz7, HSz7_0⟩ := HI0.out; have hcz7_0 := cellS85_0 HGz7; have hcz7_1 := cellS85_1 HGz7; have hfz7_1 := blk_frozen HGz7 1; clear HGz7 hgz7; go_enter Tryz.func24, Tryz.ntmps24; go_wp2
     repeat (go_quiet (fail); try go_wp2)
     go_ret; exact ⟨c2_5, c2_4, c2_3, c2_6⟩
   ·rw [if_neg c5] at H
    have c5b0 : ((s0_0.length : Int) == 0) = false := beq_eq_false_iff_ne.mpr c5; have c5b1 : ((s0_0.length : Int) != 0) = true := bne_iff_ne.mpr c5; have c5b2 : ¬ (s0_0 = []) := fun h_ => c5 (by rw [h_]; rfl); obtain ⟨ji8, hji8⟩ : ∃ j_ : Int, (Int.tmod (wrap64 ((wrap64 (s0_1 + 1)) - 1)) (s0_0.length : Int)) = j_ := ⟨_, rfl⟩
    replace H : (if 0 ≤ (ji8) then (if (ji8) < (s0_0.length : Int) then (if a1 > 200 then (if 0 ≤ (Int.tmod (wrap64 ((wrap64 ((wrap64 (s0_1 + 1)) - 1)) + 1)) (s0_0.length : Int)) then (if (Int.tmod (wrap64 ((wrap64 ((wrap64 (s0_1 + 1)) - 1)) + 1)) (s0_0.length : Int)) < (s0_0.length : Int) then (if a1 = 0 then (none) else (some (Int.tmod (wrap64 ((wrap64 ((wrap64 ((wrap64 ((wrap64 (rd s0_0 (ji8))) + (wrap64 ((wrap64 (Int.tdiv (wrap64 ((wrap64 (s0_1 + 1)) - 1)) (s0_0.length : Int))) * 37)))) * 251)) + (wrap64 ((wrap64 (rd s0_0 (Int.tmod (wrap64 ((wrap64 ((wrap64 (s0_1 + 1)) - 1)) + 1)) (s0_0.length : Int)))) * 13)))) + (wrap64 ((wrap64 (s0_1 + 1)) - 1)))) a1, wrap64 (s0_1 + 1)))) else (none)) else (none)) else (if a1 = 0 then (none) else (some (Int.tmod (wrap64 ((wrap64 (rd s0_0 (ji8))) + (wrap64 ((wrap64 (Int.tdiv (wrap64 ((wrap64 (s0_1 + 1)) - 1)) (s0_0.length : Int))) * 37)))) a1, wrap64 (s0_1 + 1))))) else (none)) else (none)) = some (r1, r2) := by first | (rw [hji8] at H; exact H) | (simp only [hji8] at H ⊢; exact H)
    by_cases c9 : 0 ≤ (ji8)
    ·rw [if_pos c9] at H
     have c9b0 : decide (0 ≤ (ji8)) = true := decide_eq_true c9; clear c9; by_cases c10 : (ji8) < (s0_0.length : Int)
     ·rw [if_pos c10] at H
      have c10b0 : decide ((ji8) < (s0_0.length : Int)) = true := decide_eq_true c10; clear c10; by_cases c11 : a1 > 200
      ·rw [if_pos c11] at H
       have c11b0 : decide (200 < a1) = true := decide_eq_true c11; clear c11; obtain ⟨ji12, hji12⟩ : ∃ j_ : Int, (Int.tmod (wrap64 ((wrap64 ((wrap64 (s0_1 + 1)) - 1)) + 1)) (s0_0.length : Int)) = j_ := ⟨_, rfl⟩
       replace H : (if 0 ≤ (ji12) then (if (ji12) < (s0_0.length : Int) then (if a1 = 0 then (none) else (some (Int.tmod (wrap64 ((wrap64 ((wrap64 ((wrap64 ((wrap64 (rd s0_0 (ji8))) + (wrap64 ((wrap64 (Int.tdiv (wrap64 ((wrap64 (s0_1 + 1)) - 1)) (s0_0.length : Int))) * 37)))) * 251)) + (wrap64 ((wrap64 (rd s0_0 (ji12))) * 13)))) + (wrap64 ((wrap64 (s0_1 + 1)) - 1)))) a1, wrap64 (s0_1 + 1)))) else (none)) else (none)) = some (r1, r2) := by first | (rw [hji12] at H; exact H) | (simp only [hji12] at H ⊢; exact H)
       by_cases c13 : 0 ≤ (ji12)
       ·rw [if_pos c13] at H
        have c13b0 : decide (0 ≤ (ji12)) = true := decide_eq_true c13; clear c13; by_cases c14 : (ji12) < (s0_0.length : Int)
        ·rw [if_pos c14] at H
         have c14b0 : decide ((ji12) < (s0_0.length : Int)) = true := decide_eq_true c14; clear c14; by_cases c15 : a1 = 0
         ·rw [if_pos c15] at H
          exact absurd H (by simp)
         ·rw [if_neg c15] at H
          have c15b0 : (a1 == 0) = false := beq_eq_false_iff_ne.mpr c15; have c15b1 : (a1 != 0) = true := bne_iff_ne.mpr c15; simp only [Option.some.injEq, Prod.mk.injEq] at H; obtain ⟨rfl, rfl⟩ := H; obtain ⟨ASz16_0, cSz16_0, HGz16, hgz16, HSz16_0⟩ := HI0.out; have hcz16_0 := cellS85_0 HGz16; have hcz16_1 := cellS85_1 HGz16; have hfz16_1 := blk_frozen HGz16 1; clear HGz16 hgz16; have p102 : 0 ≤ ((ji8) : Int) := of_decide_eq_true d2_6; have q102 : (ji8) < (s0_0.length : Int) := of_decide_eq_true d2_6; obtain ⟨ad102, e102, hx102_0⟩ := Kd.at_int HSz16_0 (ji8) p102 q102
          cases e102
          have hn102_0 : ad102.block ≠ g := Nat.ne_of_lt (Nat.lt_of_lt_of_le (by have := World.block_lt_of_cell? _ _ hx102_0; first | rwa [add_block] at this | exact this) (IsS85.ge HI0.out)); replace hx102_0 := pw_cell_below HB.out hx102_0; replace hx102_0 := (cell_far (p := ⟨g, 1, none⟩) (by first | (rw [add_block]; exact hn102_0) | (show (Addr.add _ _).block ≠ _; rw [add_block]; exact hn102_0) | exact hn102_0) (.int .i64 (wrap64 (s0_1 + 1)))).trans hx102_0
          (try have hy102_0 := fun (n_ : Nat) => (show (((w.drewN n_).setCell ⟨g, 1, none⟩ (.int .i64 (wrap64 (s0_1 + 1))))).cell? _ = some _ from hx102_0))
          clear hn102_0; replace p102 := eq_true p102; replace q102 := eq_true q102; have p103 : 0 ≤ ((ji12) : Int) := of_decide_eq_true d2_6; have q103 : (ji12) < (s0_0.length : Int) := of_decide_eq_true d2_6; obtain ⟨ad103, e103, hx103_0⟩ := Kd.at_int HSz16_0 (ji12) p103 q103; obtain rfl : ad102 = ad103 := (by injection e103); have hn103_0 : ad102.block ≠ g := Nat.ne_of_lt (Nat.lt_of_lt_of_le (by have := World.block_lt_of_cell? _ _ hx103_0; first | rwa [add_block] at this | exact this) (IsS85.ge HI0.out)); replace hx103_0 := pw_cell_below HB.out hx103_0; replace hx103_0 := (cell_far (p := ⟨g, 1, none⟩) (by first | (rw [add_block]; exact hn103_0) | (show (Addr.add _ _).block ≠ _; rw [add_block]; exact hn103_0) | exact hn103_0) (.int .i64 (wrap64 (s0_1 + 1)))).trans hx103_0
          (try have hy103_0 := fun (n_ : Nat) => (show (((w.drewN n_).setCell ⟨g, 1, none⟩ (.int .i64 (wrap64 (s0_1 + 1))))).cell? _ = some _ from hx103_0))
          clear hn103_0; replace p103 := eq_true p103; replace q103 := eq_true q103; go_enter Tryz.func24, Tryz.ntmps24; go_wp2
          repeat (go_quiet (fail); try go_wp2)
          go_ret; exact ⟨by first | rfl | (simp [errW_none, errW_some] <;> rfl) | (simp only [← hji8, ← hji12]; first | rfl | (simp [errW_none, errW_some] <;> rfl)) | (simp [*, errW_none, errW_some] <;> rfl), c2_4, c2_3, c2_6⟩
        ·rw [if_neg c14] at H
         exact absurd H (by simp)
       ·rw [if_neg c13] at H
        exact absurd H (by simp)
      ·rw [if_neg c11] at H
       have c11b0 : decide (200 < a1) = false := decide_eq_false c11; clear c11; by_cases c17 : a1 = 0
       ·rw [if_pos c17] at H
        exact absurd H (by simp)
       ·rw [if_neg c17] at H
        have c17b0 : (a1 == 0) = false := beq_eq_false_iff_ne.mpr c17; have c17b1 : (a1 != 0) = true := bne_iff_ne.mpr c17; simp only [Option.some.injEq, Prod.mk.injEq] at H; obtain ⟨rfl, rfl⟩ := H; obtain ⟨ASz18_0, cSz18_0, HGz18, hgz18, HSz18_0⟩ := HI0.out; have hcz18_0 := cellS85_0 HGz18; have hcz18_1 := cellS85_1 HGz18; have hfz18_1 := blk_frozen HGz18 1; clear HGz18 hgz18; have p102 : 0 ≤ ((ji8) : Int) := of_decide_eq_true d2_6; have q102 : (ji8) < (s0_0.length : Int) := of_decide_eq_true d2_6; obtain ⟨ad102, e102, hx102_0⟩ := Kd.at_int HSz18_0 (ji8) p102 q102
        cases e102
        have hn102_0 : ad102.block ≠ g := Nat.ne_of_lt (Nat.lt_of_lt_of_le (by have := World.block_lt_of_cell? _ _ hx102_0; first | rwa [add_block] at this | exact this) (IsS85.ge HI0.out)); replace hx102_0 := pw_cell_below HB.out hx102_0; replace hx102_0 := (cell_far (p := ⟨g, 1, none⟩) (by first | (rw [add_block]; exact hn102_0) | (show (Addr.add _ _).block ≠ _; rw [add_block]; exact hn102_0) | exact hn102_0) (.int .i64 (wrap64 (s0_1 + 1)))).trans hx102_0
        (try have hy102_0 := fun (n_ : Nat) => (show (((w.drewN n_).setCell ⟨g, 1, none⟩ (.int .i64 (wrap64 (s0_1 + 1))))).cell? _ = some _ from hx102_0))
        clear hn102_0; replace p102 := eq_true p102; replace q102 := eq_true q102; go_enter Tryz.func24, Tryz.ntmps24; go_wp2
        repeat (go_quiet (fail); try go_wp2)
        go_ret; exact ⟨by first | rfl | (simp [errW_none, errW_some] <;> rfl) | (simp only [← hji8]; first | rfl | (simp [errW_none, errW_some] <;> rfl)) | (simp [*, errW_none, errW_some] <;> rfl), c2_4, c2_3, c2_6⟩
     ·rw [if_neg c10] at H
      exact absurd H (by simp)
    ·rw [if_neg c9] at H
     exact absurd H (by simp)

/-! ### spec_l1Pick: function 25 -/
def spec_l1Pick.f (s0_0 : List Int) (s0_1 : Int) (l1 : List Int) : Option (Int × Int) := (spec_l1Next.f s0_0 s0_1 (l1.length : Int)).bind fun bt104 => (if 0 ≤ bt104.1 then (if bt104.1 < (l1.length : Int) then (some (rd l1 bt104.1, bt104.2)) else (none)) else (none))
theorem spec_l1Pick.calls (g : Nat) (s0_0 : List Int) (s0_1 : Int) (A1 : Option Addr) (c1 : Nat) (l1 : List Int) (r1 : Int) (r2 : Int) (w0 w : World) (hI : IsS85 w0 w g s0_0 s0_1) (hB : Below w0.heap.size w0 w) (hr1 : Kd.C (Kd.int .i64) w A1 l1.length l1) (hc1 : l1.length ≤ c1) (hf1 : ∀ ad, A1 = some ad → 0 < l1.length → ad.block ≠ g) (h : spec_l1Pick.f s0_0 s0_1 l1 = some (r1, r2)) :
    Calls Tryz.prog 25 #[.pointer (some ⟨g, 0, none⟩), .slice A1 l1.length c1] w fun e w' => e = .returned (.int .i64 r1) ∧ IsS85 w0 w' g s0_0 r2 ∧ Below w0.heap.size w0 w' ∧ KeepBut w w' g none := by
  have HR1 := ak hr1; have HC1 := ak hc1; clear hr1 hc1; have HI0 := ak hI; have HK := ak (KeepBut.refl w g none); have HL := ak hB.size; clear hI; have HW0 := ak hB.size; have HB := ak hB; clear hB; have H := h; clear h; unfold spec_l1Pick.f at H; replace H := Option.bind_eq_some_iff.mp H; obtain ⟨⟨t104, t105⟩, A30, H⟩ := H; (try dsimp -simprocs only at H); have A3 := ak A30; clear A30; by_cases c4 : 0 ≤ t104
  ·rw [if_pos c4] at H
   have c4b0 : decide (0 ≤ t104) = true := decide_eq_true c4; clear c4; by_cases c5 : t104 < (l1.length : Int)
   ·rw [if_pos c5] at H
    have c5b0 : decide (t104 < (l1.length : Int)) = true := decide_eq_true c5; clear c5; simp only [Option.some.injEq, Prod.mk.injEq] at H; obtain ⟨rfl, rfl⟩ := H; go_enter Tryz.func25, Tryz.ntmps25
    go_wp2_with (first | ((with_reducible refine gate_callee (f := 24) rfl ?_); refine goesL_ (some 9) rfl rfl Tryz.func24 (by kernel_rfl) rfl #[.pointer (some ⟨g, 0, none⟩), .int .i64 (l1.length : Int)] rfl d2_1 ?_; (with_reducible refine (spec_l1Next.calls g s0_0 s0_1 (l1.length : Int) t104 t105 w0 _ ?side1 ?side2 A3.out).mono ?_); (case side1 => exact c2_4); (case side2 => exact c2_3); rintro e w6 ⟨rfl, hi, hb, hk⟩; refine ⟨_, rfl, ?_⟩; have n0_ := ak (KeepBut.trans (by repeat (first | (with_reducible first | exact HK.out | apply KeepBut.set_ | apply keep_drewN | apply keep_drew | apply keep_alloc) | exact HK.out)) hk (.inl rfl)); have n1_ := ak (hb); have n2_ := ak (hi); clear HK HB HI0; have HK := n0_; have HB := n1_; have HI0 := n2_; clear n0_ n1_ n2_; (try clear hb); (try clear hk); (try clear hi); have p106 : 0 ≤ (t104 : Int) := of_decide_eq_true d2_6; have q106 : t104 < (l1.length : Int) := of_decide_eq_true d2_6; obtain ⟨ad106, e106, hx106_0⟩ := Kd.at_int HR1.out t104 p106 q106; cases e106; replace hx106_0 := keep_cell HK.out hx106_0 (by first | (rw [add_block]; exact hf1 _ rfl (by omega)) | exact hf1 _ rfl (by omega) | exact hf1 ad106 rfl (by omega)); replace p106 := eq_true p106; replace q106 := eq_true q106))
    go_ret; exact ⟨c2_5, c2_4, c2_3, c2_6⟩
   ·rw [if_neg c5] at H
    exact absurd H (by simp)
  ·rw [if_neg c4] at H
   exact absurd H (by simp)

/-! ### spec_l1Chance: function 26 -/
def spec_l1Chance.f (s0_0 : List Int) (s0_1 : Int) (a1 : Int) : Option (Bool × Int) := (spec_l1Next.f s0_0 s0_1 a1).bind fun bt107 => (some ((bt107.1 == 0), bt107.2))
theorem spec_l1Chance.calls (g : Nat) (s0_0 : List Int) (s0_1 : Int) (a1 : Int) (r1 : Bool) (r2 : Int) (w0 w : World) (hI : IsS85 w0 w g s0_0 s0_1) (hB : Below w0.heap.size w0 w) (h : spec_l1Chance.f s0_0 s0_1 a1 = some (r1, r2)) :
    Calls Tryz.prog 26 #[.pointer (some ⟨g, 0, none⟩), .int .i64 a1] w fun e w' => e = .returned (.bool r1) ∧ IsS85 w0 w' g s0_0 r2 ∧ Below w0.heap.size w0 w' ∧ KeepBut w w' g none := by
  have HI0 := ak hI; have HK := ak (KeepBut.refl w g none); have HL := ak hB.size; clear hI; have HW0 := ak hB.size; have HB := ak hB; clear hB; have H := h; clear h; unfold spec_l1Chance.f at H; replace H := Option.bind_eq_some_iff.mp H; obtain ⟨⟨t107, t108⟩, A30, H⟩ := H; (try dsimp -simprocs only at H); have A3 := ak A30; clear A30; simp only [Option.some.injEq, Prod.mk.injEq] at H; obtain ⟨rfl, rfl⟩ := H; go_enter Tryz.func26, Tryz.ntmps26
  go_wp2_with (first | ((with_reducible refine gate_callee (f := 24) rfl ?_); refine goesL_ (some 7) rfl rfl Tryz.func24 (by kernel_rfl) rfl #[.pointer (some ⟨g, 0, none⟩), .int .i64 a1] rfl d2_1 ?_; (with_reducible refine (spec_l1Next.calls g s0_0 s0_1 a1 t107 t108 w0 _ ?side1 ?side2 A3.out).mono ?_); (case side1 => exact c2_4); (case side2 => exact c2_3); rintro e w4 ⟨rfl, hi, hb, hk⟩; refine ⟨_, rfl, ?_⟩; have n0_ := ak (KeepBut.trans (by repeat (first | (with_reducible first | exact HK.out | apply KeepBut.set_ | apply keep_drewN | apply keep_drew | apply keep_alloc) | exact HK.out)) hk (.inl rfl)); have n1_ := ak (hb); have n2_ := ak (hi); clear HK HB HI0; have HK := n0_; have HB := n1_; have HI0 := n2_; clear n0_ n1_ n2_; (try clear hb); (try clear hk); (try clear hi))); go_ret
  exact ⟨c2_5, c2_4, c2_3, c2_6⟩

/-! ### spec_DrawTokensOf: function 6 -/
mutual
def spec_DrawTokensOf.l0 : Nat → ByteArray → Int → List Int → Int → Option (ByteArray)
  | 0, _, _, _, _ => none
  | k + 1, x4, x5, x112000, x112001 => if x5 > 0 then ((some (([(⟨#[40]⟩ : ByteArray), (⟨#[41]⟩ : ByteArray), (⟨#[39]⟩ : ByteArray), (⟨#[32]⟩ : ByteArray), (⟨#[10]⟩ : ByteArray), (⟨#[49, 50, 32]⟩ : ByteArray), (⟨#[45, 51]⟩ : ByteArray), (⟨#[32, 120]⟩ : ByteArray), (⟨#[99, 97, 114, 32]⟩ : ByteArray), (⟨#[35, 116]⟩ : ByteArray), (⟨#[59, 32, 97, 10]⟩ : ByteArray), (⟨#[40, 102, 32, 49, 41]⟩ : ByteArray), (⟨#[35, 120]⟩ : ByteArray), (⟨#[65]⟩ : ByteArray), (⟨#[49, 97]⟩ : ByteArray), (⟨#[59]⟩ : ByteArray)] : List ByteArray) : List ByteArray)).bind fun y114 => ((spec_l1Next.f x112000 x112001 16).bind fun bt117 => ((spec_l1Pick.f x112000 bt117.2 (([0, 1, 2, 3, 4, 5, 6, 7, 8, 9, 10, 11, 0, 1, 3, bt117.1] : List Int))).bind fun bt122 => (if 0 ≤ bt122.1 then (if bt122.1 < (y114.length : Int) then (if x4.size + (rdOf ByteArray.empty y114 bt122.1).size ≤ 9223372036854775807 then (spec_DrawTokensOf.l0 k (x4 ++ (rdOf ByteArray.empty y114 bt122.1)) (wrap64 (x5 - 1)) x112000 bt122.2) else (none)) else (none)) else (none))))) else ((spec_l1Chance.f x112000 x112001 40).bind fun bt125 => (if bt125.1 = true then (spec_DrawTokensOf.l1 k x4 0 x112000 bt125.2) else ((spec_l1Chance.f x112000 bt125.2 60).bind fun bt132 => (if bt132.1 = true then (if 401 ≤ 281474976710656 then (some (strOfNums (List.replicate 401 0))) else (none)) else (some x4)))))
def spec_DrawTokensOf.l1 : Nat → ByteArray → Int → List Int → Int → Option (ByteArray)
  | 0, _, _, _, _ => none
  | k + 1, x4, x6, x112000, x112001 => if x6 < 121 then (if x4.size + 2 ≤ 9223372036854775807 then (spec_DrawTokensOf.l1 k (x4 ++ (⟨#[40, 32]⟩ : ByteArray)) (wrap64 (x6 + 1)) x112000 x112001) else (none)) else ((spec_l1Chance.f x112000 x112001 60).bind fun bt127 => (if bt127.1 = true then (if 401 ≤ 281474976710656 then (some (strOfNums (List.replicate 401 0))) else (none)) else (some x4)))
end
def spec_DrawTokensOf.f (k : Nat) (l0 : List Int) : Option (ByteArray) := (spec_l1Source.f l0).bind fun bt109 => ((spec_l1Next.f bt109.1 bt109.2 12).bind fun bt112 => (spec_DrawTokensOf.l0 k (⟨#[]⟩ : ByteArray) bt112.1 bt109.1 bt112.2))
theorem spec_DrawTokensOf.mono_l : ∀ k, (∀ y0 y1 y2 y3, LeO (spec_DrawTokensOf.l0 k y0 y1 y2 y3) (spec_DrawTokensOf.l0 (k + 1) y0 y1 y2 y3)) ∧ (∀ y0 y1 y2 y3, LeO (spec_DrawTokensOf.l1 k y0 y1 y2 y3) (spec_DrawTokensOf.l1 (k + 1) y0 y1 y2 y3))
  | 0 => ⟨fun _ _ _ _ r h => by simp [spec_DrawTokensOf.l0] at h, fun _ _ _ _ r h => by simp [spec_DrawTokensOf.l1] at h⟩
  | k + 1 => by
    obtain ⟨ih0, ih1⟩ := spec_DrawTokensOf.mono_l k; refine ⟨?_, ?_⟩
    all_goals
      intros
      first | unfold spec_DrawTokensOf.l0 | unfold spec_DrawTokensOf.l1
      repeat' first | (with_reducible first | apply ih0 | apply ih1 | exact LeO.refl _ | exact LeO.none _ | refine LeO.ite ?_ ?_ | refine LeO.bind ?_ (fun _ => ?_)) | apply ih0 | apply ih1 | exact LeO.none _ | refine LeO.ite ?_ ?_ | refine LeO.bind ?_ (fun _ => ?_)
theorem spec_DrawTokensOf.mono : ∀ a0 k, LeO (spec_DrawTokensOf.f k a0) (spec_DrawTokensOf.f (k + 1) a0) := by
  intro a0 k; obtain ⟨ih0, ih1⟩ := spec_DrawTokensOf.mono_l k; unfold spec_DrawTokensOf.f
  repeat' first | (with_reducible first | apply ih0 | apply ih1 | exact LeO.refl _ | exact LeO.none _ | refine LeO.ite ?_ ?_ | refine LeO.bind ?_ (fun _ => ?_)) | apply ih0 | apply ih1 | exact LeO.none _ | refine LeO.ite ?_ ?_ | refine LeO.bind ?_ (fun _ => ?_)
theorem spec_DrawTokensOf.calls (k : Nat) (A0 : Option Addr) (c0 : Nat) (l0 : List Int) (r : ByteArray) (w : World) (hr0 : Kd.C (Kd.int .u8) w A0 l0.length l0) (hc0 : l0.length ≤ c0) (h : spec_DrawTokensOf.f k l0 = some r) :
    Calls Tryz.prog 6 #[.slice A0 l0.length c0] w fun e w' => e = .returned (.string r) ∧ Below w.heap.size w w' := by
  have HR0 := ak hr0; have HC0 := ak hc0; clear hr0 hc0; have HB := ak (Below.refl w.heap.size w); have H := h; clear h; unfold spec_DrawTokensOf.f at H; replace H := Option.bind_eq_some_iff.mp H; obtain ⟨⟨t109, t110⟩, A20, H⟩ := H; (try dsimp -simprocs only at H); have A2 := ak A20; clear A20; replace H := Option.bind_eq_some_iff.mp H; obtain ⟨⟨t112, t113⟩, A30, H⟩ := H; (try dsimp -simprocs only at H); have A3 := ak A30; clear A30; have H' := ak H; clear H; go_enter Tryz.func6, Tryz.ntmps6
  go_wp2_with (first | ((with_reducible refine gate_callee (f := 23) rfl ?_); refine goesL_ (some 8) rfl rfl Tryz.func23 (by kernel_rfl) rfl #[.slice A0 l0.length c0] rfl d2_1 ?_; (with_reducible refine (spec_l1Source.calls _ _ l0 t109 t110 w _ ?side1 ?side2 ?side3 A2.out).mono ?_); (case side1 => exact c2_7); (case side2 => exact HR0.out); (case side3 => exact HC0.out); rintro e w4 ⟨g111, rfl, hi, hb, hb2⟩; refine ⟨_, rfl, ?_⟩; have n0_ := ak (hb); have n1_ := ak (hi); clear HB; have HB := n0_; have HI111 := n1_; clear n0_ n1_; (try clear hb); (try clear hb2); (try clear hk); (try clear hi)) | ((with_reducible refine gate_callee (f := 24) rfl ?_); refine goesL_ (some 10) rfl rfl Tryz.func24 (by kernel_rfl) rfl #[.pointer (some ⟨g111, 0, none⟩), .int .i64 12] rfl d2_1 ?_; (with_reducible refine (spec_l1Next.calls g111 t109 t110 12 t112 t113 w _ ?side1 ?side2 A3.out).mono ?_); (case side1 => exact c2_2); (case side2 => exact c2_1); rintro e w5 ⟨rfl, hi, hb, hk⟩; refine ⟨_, rfl, ?_⟩; have n0_ := ak (hb); have n1_ := ak (hi); clear HB HI111; have HB := n0_; have HI111 := n1_; clear n0_ n1_; (try clear hb); (try clear hb2); (try clear hk); (try clear hi)))
  go_loopg [4, 5] k (fun kq v4 v5 w' => ∃ (x4_1 : ByteArray) (x5_1 : Int) (x112001_1 : Int), v4 = .string x4_1 ∧ v5 = .int .i64 x5_1 ∧ Aside0 (spec_DrawTokensOf.l0 kq x4_1 x5_1 t109 x112001_1 = some r) ∧ Aside0 (kq ≤ k) ∧ Aside0 (IsS85 w w' g111 t109 x112001_1) ∧ Aside0 (Below w.heap.size w w'))
  case atStart => exact ⟨((⟨#[]⟩ : ByteArray)), (t112), (t113), d2_3, d2_3, H', ⟨Nat.le_refl _⟩, ⟨c2_2⟩, ⟨c2_1⟩⟩
  case round =>
   clear H'
   (try clear c2); (try clear p2)
   obtain ⟨x4_1, x5_1, x112001_1, rfl, rfl, HA, HK1, HI111, HB⟩ := hrel
   cases gk with
   | zero => exact absurd HA.out (by simp [spec_DrawTokensOf.l0])
   | succ k1 =>
    have H := HA.out; clear HA; simp only [spec_DrawTokensOf.l0] at H; by_cases c6 : x5_1 > 0
    ·rw [if_pos c6] at H
     have c6b0 : decide (0 < x5_1) = true := decide_eq_true c6; clear c6; obtain ⟨y114, hy114⟩ : ∃ y_ : List ByteArray, y_ = (([(⟨#[40]⟩ : ByteArray), (⟨#[41]⟩ : ByteArray), (⟨#[39]⟩ : ByteArray), (⟨#[32]⟩ : ByteArray), (⟨#[10]⟩ : ByteArray), (⟨#[49, 50, 32]⟩ : ByteArray), (⟨#[45, 51]⟩ : ByteArray), (⟨#[32, 120]⟩ : ByteArray), (⟨#[99, 97, 114, 32]⟩ : ByteArray), (⟨#[35, 116]⟩ : ByteArray), (⟨#[59, 32, 97, 10]⟩ : ByteArray), (⟨#[40, 102, 32, 49, 41]⟩ : ByteArray), (⟨#[35, 120]⟩ : ByteArray), (⟨#[65]⟩ : ByteArray), (⟨#[49, 97]⟩ : ByteArray), (⟨#[59]⟩ : ByteArray)] : List ByteArray)) := ⟨_, rfl⟩
     replace H : ((spec_l1Next.f t109 x112001_1 16).bind fun bt117 => ((spec_l1Pick.f t109 bt117.2 (([0, 1, 2, 3, 4, 5, 6, 7, 8, 9, 10, 11, 0, 1, 3, bt117.1] : List Int))).bind fun bt122 => (if 0 ≤ bt122.1 then (if bt122.1 < (y114.length : Int) then (if x4_1.size + (rdOf ByteArray.empty y114 bt122.1).size ≤ 9223372036854775807 then (spec_DrawTokensOf.l0 k1 (x4_1 ++ (rdOf ByteArray.empty y114 bt122.1)) (wrap64 (x5_1 - 1)) t109 bt122.2) else (none)) else (none)) else (none)))) = some r := by first | (rw [hy114]; with_reducible exact H) | (have H2_ := (Option.bind_some _ _).symm.trans H; rw [hy114]; with_reducible exact H2_) | (have H2_ := (Option.bind_some _ _).symm.trans H; with_reducible exact H2_) | with_reducible exact H | (rw [hy114]; exact H) | exact H
     have Ny114 := ak hy114; clear hy114; replace H := Option.bind_eq_some_iff.mp H; obtain ⟨⟨t117, t118⟩, A70, H⟩ := H; (try dsimp -simprocs only at H); have A7 := ak A70; clear A70; obtain ⟨y119, hy119⟩ : ∃ y_ : List Int, y_ = (([0, 1, 2, 3, 4, 5, 6, 7, 8, 9, 10, 11, 0, 1, 3, t117] : List Int)) := ⟨_, rfl⟩
     replace H : ((spec_l1Pick.f t109 t118 y119).bind fun bt122 => (if 0 ≤ bt122.1 then (if bt122.1 < (y114.length : Int) then (if x4_1.size + (rdOf ByteArray.empty y114 bt122.1).size ≤ 9223372036854775807 then (spec_DrawTokensOf.l0 k1 (x4_1 ++ (rdOf ByteArray.empty y114 bt122.1)) (wrap64 (x5_1 - 1)) t109 bt122.2) else (none)) else (none)) else (none))) = some r := by first | (rw [hy119]; with_reducible exact H) | (have H2_ := (Option.bind_some _ _).symm.trans H; rw [hy119]; with_reducible exact H2_) | (have H2_ := (Option.bind_some _ _).symm.trans H; with_reducible exact H2_) | with_reducible exact H | (rw [hy119]; exact H) | exact H
     have Ny119 := ak hy119; clear hy119; replace H := Option.bind_eq_some_iff.mp H; obtain ⟨⟨t122, t123⟩, A80, H⟩ := H; (try dsimp -simprocs only at H); have A8 := ak A80; clear A80; by_cases c9 : 0 ≤ t122
     ·rw [if_pos c9] at H
      have c9b0 : decide (0 ≤ t122) = true := decide_eq_true c9; clear c9; by_cases c10 : t122 < (y114.length : Int)
      ·rw [if_pos c10] at H
       have c10b0 : decide (t122 < (y114.length : Int)) = true := decide_eq_true c10; clear c10; by_cases c11 : x4_1.size + (rdOf ByteArray.empty y114 t122).size ≤ 9223372036854775807
       ·rw [if_pos c11] at H
        have c11b0 := eq_true c11; have c11b1 : decide (x4_1.size + (rdOf ByteArray.empty y114 t122).size ≤ 9223372036854775807) = true := decide_eq_true c11
        try have c11b2 : (9223372036854775807 < x4_1.size + (rdOf ByteArray.empty y114 t122).size) = False := eq_false (Nat.not_lt.2 c11)
        have H' := ak H; clear H
        go_wp2_with (first | ((with_reducible refine gate_dst (N := 16) rfl ?_); refine Kd.R_lit Kd.string _ 9 ?hg (N := 16) ?hd (xs := ([(⟨#[40]⟩ : ByteArray), (⟨#[41]⟩ : ByteArray), (⟨#[39]⟩ : ByteArray), (⟨#[32]⟩ : ByteArray), (⟨#[10]⟩ : ByteArray), (⟨#[49, 50, 32]⟩ : ByteArray), (⟨#[45, 51]⟩ : ByteArray), (⟨#[32, 120]⟩ : ByteArray), (⟨#[99, 97, 114, 32]⟩ : ByteArray), (⟨#[35, 116]⟩ : ByteArray), (⟨#[59, 32, 97, 10]⟩ : ByteArray), (⟨#[40, 102, 32, 49, 41]⟩ : ByteArray), (⟨#[35, 120]⟩ : ByteArray), (⟨#[65]⟩ : ByteArray), (⟨#[49, 97]⟩ : ByteArray), (⟨#[59]⟩ : ByteArray)] : List ByteArray)) (inner := [.string (⟨#[40]⟩ : ByteArray), .string (⟨#[41]⟩ : ByteArray), .string (⟨#[39]⟩ : ByteArray), .string (⟨#[32]⟩ : ByteArray), .string (⟨#[10]⟩ : ByteArray), .string (⟨#[49, 50, 32]⟩ : ByteArray), .string (⟨#[45, 51]⟩ : ByteArray), .string (⟨#[32, 120]⟩ : ByteArray), .string (⟨#[99, 97, 114, 32]⟩ : ByteArray), .string (⟨#[35, 116]⟩ : ByteArray), .string (⟨#[59, 32, 97, 10]⟩ : ByteArray), .string (⟨#[40, 102, 32, 49, 41]⟩ : ByteArray), .string (⟨#[35, 120]⟩ : ByteArray), .string (⟨#[65]⟩ : ByteArray), .string (⟨#[49, 97]⟩ : ByteArray), .string (⟨#[59]⟩ : ByteArray)]) (ok := fun _ => True) (okp := fun _ => True) ?hr ?hp (fun _ hk => hk) trivial (Below.refl _ _) (Nat.le_refl _) (by simp) ?_; (case hd => rfl); (case hg => rfl); (case hr => first | (go_simp; done) | (go_simp; rfl)); (case hp => exact (Reps.one (show Kd.M Kd.string _ _ _ (⟨#[40]⟩ : ByteArray) [.string (⟨#[40]⟩ : ByteArray)] from rfl) (Reps.one (show Kd.M Kd.string _ _ _ (⟨#[41]⟩ : ByteArray) [.string (⟨#[41]⟩ : ByteArray)] from rfl) (Reps.one (show Kd.M Kd.string _ _ _ (⟨#[39]⟩ : ByteArray) [.string (⟨#[39]⟩ : ByteArray)] from rfl) (Reps.one (show Kd.M Kd.string _ _ _ (⟨#[32]⟩ : ByteArray) [.string (⟨#[32]⟩ : ByteArray)] from rfl) (Reps.one (show Kd.M Kd.string _ _ _ (⟨#[10]⟩ : ByteArray) [.string (⟨#[10]⟩ : ByteArray)] from rfl) (Reps.one (show Kd.M Kd.string _ _ _ (⟨#[49, 50, 32]⟩ : ByteArray) [.string (⟨#[49, 50, 32]⟩ : ByteArray)] from rfl) (Reps.one (show Kd.M Kd.string _ _ _ (⟨#[45, 51]⟩ : ByteArray) [.string (⟨#[45, 51]⟩ : ByteArray)] from rfl) (Reps.one (show Kd.M Kd.string _ _ _ (⟨#[32, 120]⟩ : ByteArray) [.string (⟨#[32, 120]⟩ : ByteArray)] from rfl) (Reps.one (show Kd.M Kd.string _ _ _ (⟨#[99, 97, 114, 32]⟩ : ByteArray) [.string (⟨#[99, 97, 114, 32]⟩ : ByteArray)] from rfl) (Reps.one (show Kd.M Kd.string _ _ _ (⟨#[35, 116]⟩ : ByteArray) [.string (⟨#[35, 116]⟩ : ByteArray)] from rfl) (Reps.one (show Kd.M Kd.string _ _ _ (⟨#[59, 32, 97, 10]⟩ : ByteArray) [.string (⟨#[59, 32, 97, 10]⟩ : ByteArray)] from rfl) (Reps.one (show Kd.M Kd.string _ _ _ (⟨#[40, 102, 32, 49, 41]⟩ : ByteArray) [.string (⟨#[40, 102, 32, 49, 41]⟩ : ByteArray)] from rfl) (Reps.one (show Kd.M Kd.string _ _ _ (⟨#[35, 120]⟩ : ByteArray) [.string (⟨#[35, 120]⟩ : ByteArray)] from rfl) (Reps.one (show Kd.M Kd.string _ _ _ (⟨#[65]⟩ : ByteArray) [.string (⟨#[65]⟩ : ByteArray)] from rfl) (Reps.one (show Kd.M Kd.string _ _ _ (⟨#[49, 97]⟩ : ByteArray) [.string (⟨#[49, 97]⟩ : ByteArray)] from rfl) (Reps.one (show Kd.M Kd.string _ _ _ (⟨#[59]⟩ : ByteArray) [.string (⟨#[59]⟩ : ByteArray)] from rfl) (Reps.none _ _)))))))))))))))))); intro v115 w12 ho13 hb hg_ hnew_; clear hg_ hnew_; (first | rw [← Ny114.out] at ho13 | (simp only [Int.reduceToNat] at ho13; rw [← Ny114.out] at ho13)); have n0_ := ak (Kd.R_lower ho13 (below_size d2_2)); have n1_ := ak (IsS85.below d2_5 hb); have n2_ := ak (below_step d2_2 hb); clear HI111 HB; have HO116 := n0_; have HI111 := n1_; have HB := n2_; clear n0_ n1_ n2_ hb ho13) | ((with_reducible refine gate_callee (f := 24) rfl ?_); refine goesL_ (some 19) rfl rfl Tryz.func24 (by kernel_rfl) rfl #[.pointer (some ⟨g111, 0, none⟩), .int .i64 16] rfl d2_1 ?_; (with_reducible refine (spec_l1Next.calls g111 t109 x112001_1 16 t117 t118 w _ ?side1 ?side2 A7.out).mono ?_); (case side1 => exact c2_2); (case side2 => exact c2_1); rintro e w14 ⟨rfl, hi, hb, hk⟩; refine ⟨_, rfl, ?_⟩; have n0_ := ak (Kd.R_mono (Kd.R_keep (IsS85.apart (show IsS85 w _ g111 t109 x112001_1 from by repeat (first | (with_reducible first | exact HI111.out | apply IsS85.alloc | apply IsS85.drewN | apply IsS85.drew | apply IsS85.set_1) | exact HI111.out)) (by (with_reducible repeat (first | apply Kd.R_alloc | apply Kd.R_drewN | apply Kd.R_drew)); exact HO116.out) (by decide)) hk (fun _ h => h.2)) (fun _ h => h.1)); have n1_ := ak (hb); have n2_ := ak (hi); clear HO116 HB HI111; have HO116 := n0_; have HB := n1_; have HI111 := n2_; clear n0_ n1_ n2_; (try clear hb); (try clear hk); (try clear hi)) | ((with_reducible refine gate_dst (N := 20) rfl ?_); refine Kd.R_lit (Kd.int .i64) _ 2 ?hg (N := 20) ?hd (xs := ([0, 1, 2, 3, 4, 5, 6, 7, 8, 9, 10, 11, 0, 1, 3, t117] : List Int)) (inner := [.int .i64 0, .int .i64 1, .int .i64 2, .int .i64 3, .int .i64 4, .int .i64 5, .int .i64 6, .int .i64 7, .int .i64 8, .int .i64 9, .int .i64 10, .int .i64 11, .int .i64 0, .int .i64 1, .int .i64 3, .int .i64 t117]) (ok := fun _ => True) (okp := fun _ => True) ?hr ?hp (fun _ hk => hk) trivial (Below.refl _ _) (Nat.le_refl _) (by simp) ?_; (case hd => rfl); (case hg => rfl); (case hr => first | (go_simp; done) | (go_simp; rfl)); (case hp => exact (Reps.one (show Kd.M (Kd.int .i64) _ _ _ 0 [.int .i64 0] from rfl) (Reps.one (show Kd.M (Kd.int .i64) _ _ _ 1 [.int .i64 1] from rfl) (Reps.one (show Kd.M (Kd.int .i64) _ _ _ 2 [.int .i64 2] from rfl) (Reps.one (show Kd.M (Kd.int .i64) _ _ _ 3 [.int .i64 3] from rfl) (Reps.one (show Kd.M (Kd.int .i64) _ _ _ 4 [.int .i64 4] from rfl) (Reps.one (show Kd.M (Kd.int .i64) _ _ _ 5 [.int .i64 5] from rfl) (Reps.one (show Kd.M (Kd.int .i64) _ _ _ 6 [.int .i64 6] from rfl) (Reps.one (show Kd.M (Kd.int .i64) _ _ _ 7 [.int .i64 7] from rfl) (Reps.one (show Kd.M (Kd.int .i64) _ _ _ 8 [.int .i64 8] from rfl) (Reps.one (show Kd.M (Kd.int .i64) _ _ _ 9 [.int .i64 9] from rfl) (Reps.one (show Kd.M (Kd.int .i64) _ _ _ 10 [.int .i64 10] from rfl) (Reps.one (show Kd.M (Kd.int .i64) _ _ _ 11 [.int .i64 11] from rfl) (Reps.one (show Kd.M (Kd.int .i64) _ _ _ 0 [.int .i64 0] from rfl) (Reps.one (show Kd.M (Kd.int .i64) _ _ _ 1 [.int .i64 1] from rfl) (Reps.one (show Kd.M (Kd.int .i64) _ _ _ 3 [.int .i64 3] from rfl) (Reps.one (show Kd.M (Kd.int .i64) _ _ _ t117 [.int .i64 t117] from rfl) (Reps.none _ _)))))))))))))))))); intro v120 w15 ho16 hb hg_ hnew_; clear hg_ hnew_; (first | rw [← Ny119.out] at ho16 | (simp only [Int.reduceToNat] at ho16; rw [← Ny119.out] at ho16)); have n0_ := ak (Kd.R_below (by (with_reducible repeat (first | apply Kd.R_alloc | apply Kd.R_drewN | apply Kd.R_drew)); exact HO116.out) hb); have n1_ := ak (Kd.R_lower ho16 (below_size d2_2)); have n2_ := ak (IsS85.below d2_5 hb); have n3_ := ak (below_step d2_2 hb); clear HO116 HI111 HB; have HO116 := n0_; have HO121 := n1_; have HI111 := n2_; have HB := n3_; clear n0_ n1_ n2_ n3_ hb ho16; obtain ⟨Ao17, co17, eo17⟩ := Kd.R_slice HO121.out; subst eo17) | ((with_reducible refine gate_callee (f := 25) rfl ?_); refine goesL_ (some 21) rfl rfl Tryz.func25 (by kernel_rfl) rfl #[.pointer (some ⟨g111, 0, none⟩), .slice Ao17 y119.length co17] rfl d2_1 ?_; (with_reducible refine (spec_l1Pick.calls g111 t109 t118 _ _ y119 t122 t123 w _ ?side1 ?side2 ?side3 ?side4 ?side5 A8.out).mono ?_); (case side1 => exact c2_2); (case side2 => exact c2_1); (case side3 => repeat (first | exact (Kd.R_reads' HO121.out).2.2 | (with_reducible refine Kd.C_alloc ?_ _) | (with_reducible refine Kd.C_drewN ?_ _) | (with_reducible refine Kd.C_drew ?_))); (case side4 => exact (Kd.R_reads' HO121.out).2.1); (case side5 => exact far_slice (IsS85.own_ne HI111.out HO121.out (by decide))); rintro e w18 ⟨rfl, hi, hb, hk⟩; refine ⟨_, rfl, ?_⟩; have n0_ := ak (Kd.R_mono (Kd.R_keep (IsS85.apart (show IsS85 w _ g111 t109 t118 from by repeat (first | (with_reducible first | exact HI111.out | apply IsS85.alloc | apply IsS85.drewN | apply IsS85.drew | apply IsS85.set_1) | exact HI111.out)) (by (with_reducible repeat (first | apply Kd.R_alloc | apply Kd.R_drewN | apply Kd.R_drew)); exact HO116.out) (by decide)) hk (fun _ h => h.2)) (fun _ h => h.1)); have n1_ := ak (Kd.R_mono (Kd.R_keep (IsS85.apart (show IsS85 w _ g111 t109 t118 from by repeat (first | (with_reducible first | exact HI111.out | apply IsS85.alloc | apply IsS85.drewN | apply IsS85.drew | apply IsS85.set_1) | exact HI111.out)) (by (with_reducible repeat (first | apply Kd.R_alloc | apply Kd.R_drewN | apply Kd.R_drew)); exact HO121.out) (by decide)) hk (fun _ h => h.2)) (fun _ h => h.1)); have n2_ := ak (hb); have n3_ := ak (hi); clear HO116 HO121 HB HI111; have HO116 := n0_; have HO121 := n1_; have HB := n2_; have HI111 := n3_; clear n0_ n1_ n2_ n3_; (try clear hb); (try clear hk); (try clear hi); obtain ⟨Ao19, co19, eo19⟩ := Kd.R_slice HO116.out; subst eo19; have p124 : 0 ≤ (t122 : Int) := of_decide_eq_true d2_6; have q124 : t122 < (y114.length : Int) := of_decide_eq_true d2_6; obtain ⟨ad124, e124, hx124_0⟩ := Kd.at_string (Kd.R_reads' HO116.out).2.2 t122 p124 q124; cases e124; replace p124 := eq_true p124; replace q124 := eq_true q124))
        go_roundg k1
        case measure => have := HK1.out; omega
        case rel => exact ⟨(x4_1 ++ (rdOf ByteArray.empty y114 t122)), (wrap64 (x5_1 - 1)), (t123), d2_3, d2_3, H', ⟨by have := HK1.out; omega⟩, ⟨c2_2⟩, ⟨c2_1⟩⟩
       ·rw [if_neg c11] at H
        exact absurd H (by simp)
      ·rw [if_neg c10] at H
       exact absurd H (by simp)
     ·rw [if_neg c9] at H
      exact absurd H (by simp)
    ·rw [if_neg c6] at H
     have c6b0 : decide (0 < x5_1) = false := decide_eq_false c6; clear c6; replace H := Option.bind_eq_some_iff.mp H; obtain ⟨⟨t125, t126⟩, A200, H⟩ := H; (try dsimp -simprocs only at H); have A20 := ak A200; clear A200; by_cases c21 : t125 = true
     ·subst c21
      rw [if_pos rfl] at H; have H' := ak H; clear H; go_wp2_with (first | ((with_reducible refine gate_callee (f := 26) rfl ?_); refine goesL_ (some 26) rfl rfl Tryz.func26 (by kernel_rfl) rfl #[.pointer (some ⟨g111, 0, none⟩), .int .i64 40] rfl d2_1 ?_; (with_reducible refine (spec_l1Chance.calls g111 t109 x112001_1 40 true t126 w _ ?side1 ?side2 A20.out).mono ?_); (case side1 => exact c2_2); (case side2 => exact c2_1); rintro e w22 ⟨rfl, hi, hb, hk⟩; refine ⟨_, rfl, ?_⟩; have n0_ := ak (hb); have n1_ := ak (hi); clear HB HI111; have HB := n0_; have HI111 := n1_; clear n0_ n1_; (try clear hb); (try clear hk); (try clear hi))); go_loopg [4, 6] k1 (fun kq v4 v6 w' => ∃ (x4_2 : ByteArray) (x6_2 : Int), v4 = .string x4_2 ∧ v6 = .int .i64 x6_2 ∧ Aside0 (spec_DrawTokensOf.l1 kq x4_2 x6_2 t109 t126 = some r) ∧ Aside0 (kq ≤ k1) ∧ Aside0 (IsS85 w w' g111 t109 t126) ∧ Aside0 (Below w.heap.size w w'))
      case atStart => exact ⟨(x4_1), (0), d2_3, d2_3, H', ⟨Nat.le_refl _⟩, ⟨c2_2⟩, ⟨c2_1⟩⟩
      case round =>
       clear H'
       (try clear c1); (try clear p1); (try clear q1); (try clear hx1); (try clear c2); (try clear p2); (try clear c6); (try clear c6b0); (try clear p6); (try clear c9); (try clear c9b0); (try clear c10); (try clear c10b0); (try clear c11); (try clear c11b0); (try clear c11b1); (try clear c11b2); (try clear p12); (try clear q12); (try clear hx12); (try clear c21); (try clear hx124_0); (try clear p124); (try clear p2); (try clear q124)
       obtain ⟨x4_2, x6_2, rfl, rfl, HA, HK2, HI111, HB⟩ := hrel
       cases gk with
       | zero => exact absurd HA.out (by simp [spec_DrawTokensOf.l1])
       | succ k2 =>
        have H := HA.out; clear HA; simp only [spec_DrawTokensOf.l1] at H; by_cases c23 : x6_2 < 121
        ·rw [if_pos c23] at H
         have c23b0 : decide (x6_2 < 121) = true := decide_eq_true c23; clear c23; by_cases c24 : x4_2.size + 2 ≤ 9223372036854775807
         ·rw [if_pos c24] at H
          have c24b0 := eq_true c24; have c24b1 : decide (x4_2.size + 2 ≤ 9223372036854775807) = true := decide_eq_true c24
          try have c24b2 : (9223372036854775807 < x4_2.size + 2) = False := eq_false (Nat.not_lt.2 c24)
          have H' := ak H; clear H; go_wp2; go_roundg k2
          case measure => have := HK1.out; have := HK2.out; omega
          case rel => exact ⟨(x4_2 ++ (⟨#[40, 32]⟩ : ByteArray)), (wrap64 (x6_2 + 1)), d2_3, d2_3, H', ⟨by have := HK1.out; have := HK2.out; omega⟩, ⟨c2_2⟩, ⟨c2_1⟩⟩
         ·rw [if_neg c24] at H
          exact absurd H (by simp)
        ·rw [if_neg c23] at H
         have c23b0 : decide (x6_2 < 121) = false := decide_eq_false c23; clear c23; replace H := Option.bind_eq_some_iff.mp H; obtain ⟨⟨t127, t128⟩, A250, H⟩ := H; (try dsimp -simprocs only at H); have A25 := ak A250; clear A250; by_cases c26 : t127 = true
         ·subst c26
          rw [if_pos rfl] at H; by_cases c27 : 401 ≤ 281474976710656
          ·rw [if_pos c27] at H
           have c27b0 := eq_true c27; have c27b1 : decide (401 ≤ 281474976710656) = true := decide_eq_true c27; clear c27; obtain ⟨y129, hy129⟩ : ∃ y_ : List Int, y_ = (List.replicate 401 0) := ⟨_, rfl⟩
           replace H : (some (strOfNums y129)) = some r := by first | (rw [hy129]; with_reducible exact H) | (have H2_ := (Option.bind_some _ _).symm.trans H; rw [hy129]; with_reducible exact H2_) | (have H2_ := (Option.bind_some _ _).symm.trans H; with_reducible exact H2_) | with_reducible exact H | (rw [hy129]; exact H) | exact H
           have Ny129 := ak hy129; clear hy129; obtain rfl := Option.some.inj H
           go_wp2_with (first | ((with_reducible refine gate_callee (f := 26) rfl ?_); refine goesL_ (some 34) rfl rfl Tryz.func26 (by kernel_rfl) rfl #[.pointer (some ⟨g111, 0, none⟩), .int .i64 60] rfl d2_1 ?_; (with_reducible refine (spec_l1Chance.calls g111 t109 t126 60 true t128 w _ ?side1 ?side2 A25.out).mono ?_); (case side1 => exact c2_2); (case side2 => exact c2_1); rintro e w28 ⟨rfl, hi, hb, hk⟩; refine ⟨_, rfl, ?_⟩; have n0_ := ak (hb); have n1_ := ak (hi); clear HB HI111; have HB := n0_; have HI111 := n1_; clear n0_ n1_; (try clear hb); (try clear hk); (try clear hi)) | ((with_reducible refine gate_dst (N := 35) rfl ?_); refine Kd.R_make (Kd.int .u8) _ 5 rfl (N := 35) rfl 22 _ _ rfl 401 rfl rfl Tryz.underlying22 (.int .u8 0) 1 info5 rfl (by decide) (by omega) 0 (ok := fun _ => True) (okp := fun _ => True) rfl (fun _ hk => hk) trivial (by omega) (by omega) (Below.refl _ _) (Nat.le_refl _) ?_; intro v130 w29 ho30 hb hg_ hnew_; clear hg_ hnew_; (first | rw [← Ny129.out] at ho30 | (simp only [Int.reduceToNat] at ho30; rw [← Ny129.out] at ho30)); have n0_ := ak (Kd.R_lower ho30 (below_size d2_2)); have n1_ := ak (IsS85.below d2_5 hb); have n2_ := ak (below_step d2_2 hb); clear HI111 HB; have HO131 := n0_; have HI111 := n1_; have HB := n2_; clear n0_ n1_ n2_ hb ho30; have hcv31 := own_string (P := Tryz.prog) Tryz.underlying22 Tryz.underlying5 Tryz.underlying9 (Kd.own_of_R HO131.out)))
           go_ret; exact ⟨c2_5, c2_1⟩
          ·rw [if_neg c27] at H
           exact absurd H (by simp)
         ·replace c26 := Bool.eq_false_iff.mpr c26
          subst c26
          rw [if_neg (show ¬ (false = true) by decide)] at H; obtain rfl := Option.some.inj H; go_wp2_with (first | ((with_reducible refine gate_callee (f := 26) rfl ?_); refine goesL_ (some 34) rfl rfl Tryz.func26 (by kernel_rfl) rfl #[.pointer (some ⟨g111, 0, none⟩), .int .i64 60] rfl d2_1 ?_; (with_reducible refine (spec_l1Chance.calls g111 t109 t126 60 false t128 w _ ?side1 ?side2 A25.out).mono ?_); (case side1 => exact c2_2); (case side2 => exact c2_1); rintro e w32 ⟨rfl, hi, hb, hk⟩; refine ⟨_, rfl, ?_⟩; have n0_ := ak (hb); have n1_ := ak (hi); clear HB HI111; have HB := n0_; have HI111 := n1_; clear n0_ n1_; (try clear hb); (try clear hk); (try clear hi))); go_ret; exact ⟨c2_5, c2_1⟩
     ·replace c21 := Bool.eq_false_iff.mpr c21
      subst c21
      rw [if_neg (show ¬ (false = true) by decide)] at H; replace H := Option.bind_eq_some_iff.mp H; obtain ⟨⟨t132, t133⟩, A330, H⟩ := H; (try dsimp -simprocs only at H); have A33 := ak A330; clear A330; by_cases c34 : t132 = true
      ·subst c34
       rw [if_pos rfl] at H; by_cases c35 : 401 ≤ 281474976710656
       ·rw [if_pos c35] at H
        have c35b0 := eq_true c35; have c35b1 : decide (401 ≤ 281474976710656) = true := decide_eq_true c35; clear c35; obtain ⟨y134, hy134⟩ : ∃ y_ : List Int, y_ = (List.replicate 401 0) := ⟨_, rfl⟩
        replace H : (some (strOfNums y134)) = some r := by first | (rw [hy134]; with_reducible exact H) | (have H2_ := (Option.bind_some _ _).symm.trans H; rw [hy134]; with_reducible exact H2_) | (have H2_ := (Option.bind_some _ _).symm.trans H; with_reducible exact H2_) | with_reducible exact H | (rw [hy134]; exact H) | exact H
        have Ny134 := ak hy134; clear hy134; obtain rfl := Option.some.inj H
        go_wp2_with (first | ((with_reducible refine gate_callee (f := 26) rfl ?_); refine goesL_ (some 26) rfl rfl Tryz.func26 (by kernel_rfl) rfl #[.pointer (some ⟨g111, 0, none⟩), .int .i64 40] rfl d2_1 ?_; (with_reducible refine (spec_l1Chance.calls g111 t109 x112001_1 40 false t126 w _ ?side1 ?side2 A20.out).mono ?_); (case side1 => exact c2_2); (case side2 => exact c2_1); rintro e w36 ⟨rfl, hi, hb, hk⟩; refine ⟨_, rfl, ?_⟩; have n0_ := ak (hb); have n1_ := ak (hi); clear HB HI111; have HB := n0_; have HI111 := n1_; clear n0_ n1_; (try clear hb); (try clear hk); (try clear hi)) | ((with_reducible refine gate_callee (f := 26) rfl ?_); refine goesL_ (some 34) rfl rfl Tryz.func26 (by kernel_rfl) rfl #[.pointer (some ⟨g111, 0, none⟩), .int .i64 60] rfl d2_1 ?_; (with_reducible refine (spec_l1Chance.calls g111 t109 t126 60 true t133 w _ ?side1 ?side2 A33.out).mono ?_); (case side1 => exact c2_2); (case side2 => exact c2_1); rintro e w37 ⟨rfl, hi, hb, hk⟩; refine ⟨_, rfl, ?_⟩; have n0_ := ak (hb); have n1_ := ak (hi); clear HB HI111; have HB := n0_; have HI111 := n1_; clear n0_ n1_; (try clear hb); (try clear hk); (try clear hi)) | ((with_reducible refine gate_dst (N := 35) rfl ?_); refine Kd.R_make (Kd.int .u8) _ 5 rfl (N := 35) rfl 22 _ _ rfl 401 rfl rfl Tryz.underlying22 (.int .u8 0) 1 info5 rfl (by decide) (by omega) 0 (ok := fun _ => True) (okp := fun _ => True) rfl (fun _ hk => hk) trivial (by omega) (by omega) (Below.refl _ _) (Nat.le_refl _) ?_; intro v135 w38 ho39 hb hg_ hnew_; clear hg_ hnew_; (first | rw [← Ny134.out] at ho39 | (simp only [Int.reduceToNat] at ho39; rw [← Ny134.out] at ho39)); have n0_ := ak (Kd.R_lower ho39 (below_size d2_2)); have n1_ := ak (IsS85.below d2_5 hb); have n2_ := ak (below_step d2_2 hb); clear HI111 HB; have HO136 := n0_; have HI111 := n1_; have HB := n2_; clear n0_ n1_ n2_ hb ho39; have hcv40 := own_string (P := Tryz.prog) Tryz.underlying22 Tryz.underlying5 Tryz.underlying9 (Kd.own_of_R HO136.out)))
        go_ret; exact ⟨c2_5, c2_1⟩
       ·rw [if_neg c35] at H
        exact absurd H (by simp)
      ·replace c34 := Bool.eq_false_iff.mpr c34
       subst c34
       rw [if_neg (show ¬ (false = true) by decide)] at H; obtain rfl := Option.some.inj H
       go_wp2_with (first | ((with_reducible refine gate_callee (f := 26) rfl ?_); refine goesL_ (some 26) rfl rfl Tryz.func26 (by kernel_rfl) rfl #[.pointer (some ⟨g111, 0, none⟩), .int .i64 40] rfl d2_1 ?_; (with_reducible refine (spec_l1Chance.calls g111 t109 x112001_1 40 false t126 w _ ?side1 ?side2 A20.out).mono ?_); (case side1 => exact c2_2); (case side2 => exact c2_1); rintro e w41 ⟨rfl, hi, hb, hk⟩; refine ⟨_, rfl, ?_⟩; have n0_ := ak (hb); have n1_ := ak (hi); clear HB HI111; have HB := n0_; have HI111 := n1_; clear n0_ n1_; (try clear hb); (try clear hk); (try clear hi)) | ((with_reducible refine gate_callee (f := 26) rfl ?_); refine goesL_ (some 34) rfl rfl Tryz.func26 (by kernel_rfl) rfl #[.pointer (some ⟨g111, 0, none⟩), .int .i64 60] rfl d2_1 ?_; (with_reducible refine (spec_l1Chance.calls g111 t109 t126 60 false t133 w _ ?side1 ?side2 A33.out).mono ?_); (case side1 => exact c2_2); (case side2 => exact c2_1); rintro e w42 ⟨rfl, hi, hb, hk⟩; refine ⟨_, rfl, ?_⟩; have n0_ := ak (hb); have n1_ := ak (hi); clear HB HI111; have HB := n0_; have HI111 := n1_; clear n0_ n1_; (try clear hb); (try clear hk); (try clear hi)))
       go_ret; exact ⟨c2_5, c2_1⟩

/-! ### strings_Cut: function 27 (by hand) -/
def strings_Cut.f (a0 : ByteArray) (a1 : ByteArray) : Option (ByteArray × ByteArray × Bool) := if a1.size = 1 ∧ a0.size < 4294967281 then some (⟨(Lib.cut a0.data.toList a1.data.toList).1.toArray⟩, ⟨(Lib.cut a0.data.toList a1.data.toList).2.1.toArray⟩, (Lib.cut a0.data.toList a1.data.toList).2.2) else none
theorem strings_Cut.calls (a0 : ByteArray) (a1 : ByteArray) (r1 : ByteArray) (r2 : ByteArray) (r3 : Bool) (w : World) (h : strings_Cut.f a0 a1 = some (r1, r2, r3)) :
    Calls Tryz.prog 27 #[.string a0, .string a1] w fun e w' => e = .returned (.tuple #[.string r1, .string r2, .bool r3]) ∧ Drawn0 w w' := by
  unfold strings_Cut.f at h; by_cases c : a1.size = 1 ∧ a0.size < 4294967281
  · rw [if_pos c] at h
    simp only [Option.some.injEq, Prod.mk.injEq] at h; obtain ⟨rfl, rfl, rfl⟩ := h; exact (Go.Proofs.IX.Cut_one Tryz.lays145 a0 a1 w c.1 c.2).mono fun e w' ⟨h1, n, h2⟩ => ⟨h1, ⟨n, h2⟩⟩
  · rw [if_neg c] at h
    exact absurd h (by simp)


/-! ### strings_IndexByte: function 28 (by hand) -/
def strings_IndexByte.f (a0 : ByteArray) (a1 : Int) : Option (Int) := some (Lib.indexByte a0.data.toList a1.toNat.toUInt8)
theorem strings_IndexByte.calls (a0 : ByteArray) (a1 : Int) (r : Int) (w : World) (h : strings_IndexByte.f a0 a1 = some r) :
    Calls Tryz.prog 28 #[.string a0, .int .u8 a1] w fun e w' => e = .returned (.int .i64 r) ∧ Drawn0 w w' := by
  obtain rfl := Option.some.inj h; exact (Go.Proofs.Any.strings_IndexByte Tryz.lays137 a0 a1 w).mono fun e w' ⟨h1, h2⟩ => ⟨h1, h2 ▸ Drawn0.refl w⟩


/-! ### strings_IndexAny: function 29 (by hand) -/
def strings_IndexAny.f (a0 : ByteArray) (a1 : ByteArray) : Option (Int) := if 2 ≤ a1.size ∧ a1.size ≤ 1048576 ∧ a0.size < 4294967281 ∧ (a1.data.toList.all fun b => b.toNat < 128) = true then some (Lib.indexAny a0.data.toList a1.data.toList) else none
theorem strings_IndexAny.calls (a0 : ByteArray) (a1 : ByteArray) (r : Int) (w : World) (h : strings_IndexAny.f a0 a1 = some r) :
    Calls Tryz.prog 29 #[.string a0, .string a1] w fun e w' => e = .returned (.int .i64 r) ∧ Below w.heap.size w w' := by
  unfold strings_IndexAny.f at h; by_cases c : 2 ≤ a1.size ∧ a1.size ≤ 1048576 ∧ a0.size < 4294967281 ∧ (a1.data.toList.all fun b => b.toNat < 128) = true
  · rw [if_pos c] at h
    obtain rfl := Option.some.inj h
    exact Go.Proofs.IX.IndexAny_laid Tryz.lays153 (by kernel_rfl) a0 a1 w c.1 c.2.1 c.2.2.1 (fun j hj => by
      have := List.all_eq_true.mp c.2.2.2 (a1[j]'hj) (by rw [show a1[j]'hj = a1.data.toList[j]'(by rw [← Lib.size_eq]; exact hj) from rfl]; exact List.getElem_mem _)
      simpa using this)
  · rw [if_neg c] at h
    exact absurd h (by simp)


/-! ### impl_in: function 37 -/
def impl_in.f (a0 : Int) (a1 : Int) (a2 : Int) : Option (Bool) := if a1 ≤ a0 then (some (decide (a0 ≤ a2))) else (some false)
theorem impl_in.calls (a0 : Int) (a1 : Int) (a2 : Int) (r : Bool) (w : World) (h : impl_in.f a0 a1 a2 = some r) :
    Calls Tryz.prog 37 #[.int .i64 a0, .int .i64 a1, .int .i64 a2] w fun e w' => e = .returned (.bool r) ∧ Drawn0 w w' := by
  have H := h; clear h; unfold impl_in.f at H; by_cases c4 : a1 ≤ a0
  ·rw [if_pos c4] at H
   have c4b0 : decide (a1 ≤ a0) = true := decide_eq_true c4; clear c4; obtain rfl := Option.some.inj H; go_enter Tryz.func37, Tryz.ntmps37; go_wp2; go_ret; exact ⟨by first | rfl | (simp; done) | (simp [*]; done) | (simp [ne_nil_b, eq_nil_b]; done), by repeat (first | exact Drawn0.refl _ | apply Drawn0.step)⟩
  ·rw [if_neg c4] at H
   have c4b0 : decide (a1 ≤ a0) = false := decide_eq_false c4; clear c4; obtain rfl := Option.some.inj H; go_enter Tryz.func37, Tryz.ntmps37; go_wp2; go_ret; exact ⟨by first | rfl | (simp; done) | (simp [*]; done) | (simp [ne_nil_b, eq_nil_b]; done), by repeat (first | exact Drawn0.refl _ | apply Drawn0.step)⟩

/-! ### strings_Trim: function 41 (by hand) -/
def strings_Trim.f (a0 : ByteArray) (a1 : ByteArray) : Option (ByteArray) := if a0.size ≤ 9223372036854775807 ∧ a1.size < 4294967281 ∧ (a1.data.toList.all fun b => b.toNat < 128) = true then some ⟨(Lib.trimS a0.data.toList a1.data.toList).toArray⟩ else none
theorem strings_Trim.calls (a0 : ByteArray) (a1 : ByteArray) (r : ByteArray) (w : World) (h : strings_Trim.f a0 a1 = some r) :
    Calls Tryz.prog 41 #[.string a0, .string a1] w fun e w' => e = .returned (.string r) ∧ Below w.heap.size w w' := by
  unfold strings_Trim.f at h; by_cases c : a0.size ≤ 9223372036854775807 ∧ a1.size < 4294967281 ∧ (a1.data.toList.all fun b => b.toNat < 128) = true
  · rw [if_pos c] at h
    obtain rfl := Option.some.inj h
    have hcon := Go.Proofs.Any.strings_Trim_laid Tryz.lays160 (by kernel_rfl) a0 a1 w c.1 c.2.1 (fun j b hb => by
      have := List.all_eq_true.mp c.2.2 b (List.mem_of_getElem? hb)
      simpa using this)
    exact hcon
  · rw [if_neg c] at h
    exact absurd h (by simp)


/-! ### impl_SymFault: function 14 -/
def impl_SymFault.f (a0 : ByteArray) : Option (Int) := (impl_in.f (a0.size : Int) 1 12).bind fun t137 => (if t137 = true then ((strings_Trim.f a0 (⟨#[97, 98, 99, 100, 101, 102, 103, 104, 105, 106, 107, 108, 109, 110, 111, 112, 113, 114, 115, 116, 117, 118, 119, 120, 121, 122, 43, 45, 42, 47, 60, 61, 63, 33]⟩ : ByteArray)).bind fun t138 => (if t138.toList = ([] : List UInt8) then (some 0) else (some 5))) else (some 5))
theorem impl_SymFault.calls (a0 : ByteArray) (r : Int) (w : World) (h : impl_SymFault.f a0 = some r) :
    Calls Tryz.prog 14 #[.string a0] w fun e w' => e = .returned (.int .i64 r) ∧ Below w.heap.size w w' := by
  have HB := ak (Below.refl w.heap.size w); have H := h; clear h; unfold impl_SymFault.f at H; replace H := Option.bind_eq_some_iff.mp H; obtain ⟨t137, A20, H⟩ := H; (try dsimp -simprocs only at H); have A2 := ak A20; clear A20; by_cases c3 : t137 = true
  ·subst c3
   rw [if_pos rfl] at H; replace H := Option.bind_eq_some_iff.mp H; obtain ⟨t138, A40, H⟩ := H; (try dsimp -simprocs only at H); have A4 := ak A40; clear A40; by_cases c5 : t138.toList = ([] : List UInt8)
   ·rw [if_pos c5] at H
    have c5b0 : (t138.toList == ([] : List UInt8)) = true := beq_iff_eq.mpr c5; have c5b1 : (t138.toList != ([] : List UInt8)) = false := bne_eq_false_iff_eq.mpr c5; clear c5; obtain rfl := Option.some.inj H; go_enter Tryz.func14, Tryz.ntmps14; go_wp2_with (first | ((with_reducible refine gate_callee (f := 37) rfl ?_); refine goesL_ (some 5) rfl rfl Tryz.func37 (by kernel_rfl) rfl #[.int .i64 (a0.size : Int), .int .i64 1, .int .i64 12] rfl d2_1 ?_; (with_reducible refine (impl_in.calls (a0.size : Int) 1 12 true _ A2.out).mono ?_); rintro e w' ⟨rfl, ⟨nd, rfl⟩⟩; refine ⟨_, rfl, ?_⟩) | (go_at_call 41; (with_reducible refine (strings_Trim.calls a0 (⟨#[97, 98, 99, 100, 101, 102, 103, 104, 105, 106, 107, 108, 109, 110, 111, 112, 113, 114, 115, 116, 117, 118, 119, 120, 121, 122, 43, 45, 42, 47, 60, 61, 63, 33]⟩ : ByteArray) t138 _ A4.out).mono ?_); rintro e w6 ⟨rfl, hb⟩; have n0_ := ak (below_step d2_4 hb); clear HB; have HB := n0_; clear n0_; (try clear hb))); go_ret; exact ⟨c2_5, c2_7⟩
   ·rw [if_neg c5] at H
    have c5b0 : (t138.toList == ([] : List UInt8)) = false := beq_eq_false_iff_ne.mpr c5; have c5b1 : (t138.toList != ([] : List UInt8)) = true := bne_iff_ne.mpr c5; obtain rfl := Option.some.inj H; go_enter Tryz.func14, Tryz.ntmps14; go_wp2_with (first | ((with_reducible refine gate_callee (f := 37) rfl ?_); refine goesL_ (some 5) rfl rfl Tryz.func37 (by kernel_rfl) rfl #[.int .i64 (a0.size : Int), .int .i64 1, .int .i64 12] rfl d2_1 ?_; (with_reducible refine (impl_in.calls (a0.size : Int) 1 12 true _ A2.out).mono ?_); rintro e w' ⟨rfl, ⟨nd, rfl⟩⟩; refine ⟨_, rfl, ?_⟩) | (go_at_call 41; (with_reducible refine (strings_Trim.calls a0 (⟨#[97, 98, 99, 100, 101, 102, 103, 104, 105, 106, 107, 108, 109, 110, 111, 112, 113, 114, 115, 116, 117, 118, 119, 120, 121, 122, 43, 45, 42, 47, 60, 61, 63, 33]⟩ : ByteArray) t138 _ A4.out).mono ?_); rintro e w7 ⟨rfl, hb⟩; have n0_ := ak (below_step d2_4 hb); clear HB; have HB := n0_; clear n0_; (try clear hb))); go_ret; exact ⟨c2_5, c2_7⟩
  ·replace c3 := Bool.eq_false_iff.mpr c3
   subst c3
   rw [if_neg (show ¬ (false = true) by decide)] at H; obtain rfl := Option.some.inj H; go_enter Tryz.func14, Tryz.ntmps14; go_wp2_with (first | ((with_reducible refine gate_callee (f := 37) rfl ?_); refine goesL_ (some 5) rfl rfl Tryz.func37 (by kernel_rfl) rfl #[.int .i64 (a0.size : Int), .int .i64 1, .int .i64 12] rfl d2_1 ?_; (with_reducible refine (impl_in.calls (a0.size : Int) 1 12 false _ A2.out).mono ?_); rintro e w' ⟨rfl, ⟨nd, rfl⟩⟩; refine ⟨_, rfl, ?_⟩)); go_ret; exact ⟨c2_5, c2_7⟩

/-! ### strconv_FormatInt: function 72 (by hand) -/
def strconv_FormatInt.f (a0 : Int) (a1 : Int) : Option (ByteArray) := if -9223372036854775808 ≤ a0 ∧ a0 ≤ 9223372036854775807 ∧ a1 = 10 then some ⟨(Lib.itoa a0).toArray⟩ else none
theorem strconv_FormatInt.calls (a0 : Int) (a1 : Int) (r : ByteArray) (w : World) (hLz : Lz w) (h : strconv_FormatInt.f a0 a1 = some r) :
    Calls Tryz.prog 72 #[.int .i64 a0, .int .i64 a1] w fun e w' => e = .returned (.string r) ∧ Below w.heap.size w w' := by
  unfold strconv_FormatInt.f at h; by_cases c : -9223372036854775808 ≤ a0 ∧ a0 ≤ 9223372036854775807 ∧ a1 = 10
  · rw [if_pos c] at h
    obtain rfl := Option.some.inj h; obtain ⟨c0, c1, rfl⟩ := c; have hcon := Go.Proofs.Any.strconv_FormatInt_10 Tryz.lays173 a0 c0 c1 w hLz.tab; refine Calls.mono hcon (fun e w' hw => ?_); obtain ⟨he, k, os, rfl⟩ := hw; exact ⟨he, Go.Proofs.YteiokhfikbndbaaGreatDoor.below_grow w k os⟩
  · rw [if_neg c] at h
    exact absurd h (by simp)


/-! ### impl_dec: function 39 -/
def impl_dec.f (a0 : Int) : Option (ByteArray) := (strconv_FormatInt.f a0 10).bind fun t139 => (some t139)
theorem impl_dec.calls (a0 : Int) (r : ByteArray) (w : World) (hLz : Lz w) (h : impl_dec.f a0 = some r) :
    Calls Tryz.prog 39 #[.int .i64 a0] w fun e w' => e = .returned (.string r) ∧ Below w.heap.size w w' := by
  have HB := ak (Below.refl w.heap.size w); have HLZ := ak hLz; clear hLz; have H := h; clear h; unfold impl_dec.f at H; replace H := Option.bind_eq_some_iff.mp H; obtain ⟨t139, A20, H⟩ := H; (try dsimp -simprocs only at H); have A2 := ak A20; clear A20; obtain rfl := Option.some.inj H; go_enter Tryz.func39, Tryz.ntmps39; go_wp2_with (first | ((with_reducible refine gate_callee (f := 72) rfl ?_); refine goesL_ (some 4) rfl rfl Tryz.func72 (by kernel_rfl) rfl #[.int .i64 a0, .int .i64 10] rfl d2_1 ?_; (with_reducible refine (strconv_FormatInt.calls a0 10 t139 _ ?side1 A2.out).mono ?_); (case side1 => exact Lz.below HLZ.out d2_4); rintro e w3 ⟨rfl, hb⟩; refine ⟨_, rfl, ?_⟩; have n0_ := ak (below_step d2_4 hb); clear HB; have HB := n0_; clear n0_; (try clear hb))); go_ret; exact ⟨c2_5, c2_7⟩

/-! ### impl_NumFault: function 71 -/
def impl_NumFault.f (a0 : Int) : Option (Int) := (impl_in.f a0 (-1000000000) 1000000000).bind fun t140 => (if t140 = true then (some 0) else (some 3))
theorem impl_NumFault.calls (a0 : Int) (r : Int) (w : World) (h : impl_NumFault.f a0 = some r) :
    Calls Tryz.prog 71 #[.int .i64 a0] w fun e w' => e = .returned (.int .i64 r) ∧ Drawn0 w w' := by
  have H := h; clear h; unfold impl_NumFault.f at H; replace H := Option.bind_eq_some_iff.mp H; obtain ⟨t140, A20, H⟩ := H; (try dsimp -simprocs only at H); have A2 := ak A20; clear A20; by_cases c3 : t140 = true
  ·subst c3
   rw [if_pos rfl] at H; obtain rfl := Option.some.inj H; go_enter Tryz.func71, Tryz.ntmps71; go_wp2_with (first | ((with_reducible refine gate_callee (f := 37) rfl ?_); refine goesL_ (some 4) rfl rfl Tryz.func37 (by kernel_rfl) rfl #[.int .i64 a0, .int .i64 (-1000000000), .int .i64 1000000000] rfl d2_1 ?_; (with_reducible refine (impl_in.calls a0 (-1000000000) 1000000000 true _ A2.out).mono ?_); rintro e w' ⟨rfl, ⟨nd, rfl⟩⟩; refine ⟨_, rfl, ?_⟩)); go_ret; exact ⟨by first | rfl | (simp; done) | (simp [*]; done) | (simp [ne_nil_b, eq_nil_b]; done), by repeat (first | exact Drawn0.refl _ | apply Drawn0.step)⟩
  ·replace c3 := Bool.eq_false_iff.mpr c3
   subst c3
   rw [if_neg (show ¬ (false = true) by decide)] at H; obtain rfl := Option.some.inj H; go_enter Tryz.func71, Tryz.ntmps71; go_wp2_with (first | ((with_reducible refine gate_callee (f := 37) rfl ?_); refine goesL_ (some 4) rfl rfl Tryz.func37 (by kernel_rfl) rfl #[.int .i64 a0, .int .i64 (-1000000000), .int .i64 1000000000] rfl d2_1 ?_; (with_reducible refine (impl_in.calls a0 (-1000000000) 1000000000 false _ A2.out).mono ?_); rintro e w' ⟨rfl, ⟨nd, rfl⟩⟩; refine ⟨_, rfl, ?_⟩)); go_ret; exact ⟨by first | rfl | (simp; done) | (simp [*]; done) | (simp [ne_nil_b, eq_nil_b]; done), by repeat (first | exact Drawn0.refl _ | apply Drawn0.step)⟩

/-! ### strconv_ParseInt: function 99 (by hand) -/
def strconv_ParseInt.f (a0 : ByteArray) (a1 : Int) (a2 : Int) : Option (Int × Option Int) := if a0.size ≤ 281474976710656 ∧ a1 = 10 ∧ a2 = 64 then (match Lib.parseIntB 64 a0.data.toList with | .ok v => some (v, none) | .syntax => some (0, some 0) | .range => some (Lib.intSat 64 a0.data.toList, some 0)) else none
theorem strconv_ParseInt.calls (a0 : ByteArray) (a1 : Int) (a2 : Int) (r1 : Int) (r2 : Option Int) (w : World) (hLz : Lz w) (h : strconv_ParseInt.f a0 a1 a2 = some (r1, r2)) :
    Calls Tryz.prog 99 #[.string a0, .int .i64 a1, .int .i64 a2] w fun e w' => ∃ Ne : Nat, e = .returned (.tuple #[.int .i64 r1, errW (r2.map fun _ => (Ne : Int))]) ∧ Below w.heap.size w w' := by
  unfold strconv_ParseInt.f at h; by_cases c : a0.size ≤ 281474976710656 ∧ a1 = 10 ∧ a2 = 64
  · rw [if_pos c] at h
    obtain ⟨c0, rfl, rfl⟩ := c
    cases hp : Lib.parseIntB 64 a0.data.toList with
    | ok v =>
      rw [hp] at h; simp only [Option.some.injEq, Prod.mk.injEq] at h; obtain ⟨rfl, rfl⟩ := h; refine Calls.mono (Go.Proofs.Any.strconv_ParseInt_10_at64_ok Tryz.lays174 a0 (by omega) v hp w) (fun e w' hw => ?_); obtain ⟨he, hw⟩ := hw; refine ⟨0, he, ?_⟩
      rcases hw with rfl | ⟨t, rfl⟩
      · exact Below.refl _ _
      · exact Lib.bytesWorld_below _ _ _
    | «syntax» =>
      rw [hp] at h; simp only [Option.some.injEq, Prod.mk.injEq] at h; obtain ⟨rfl, rfl⟩ := h; obtain ⟨tp, p, hv⟩ := hLz.syn; refine Calls.mono (Go.Proofs.Any.strconv_ParseInt_10_at64_syntax_var Tryz.lays174 a0 c0 hp tp p w hv) (fun e w' hw => ?_); obtain ⟨N, he, _, _, hb⟩ := hw; exact ⟨N, he, hb⟩
    | range =>
      rw [hp] at h; simp only [Option.some.injEq, Prod.mk.injEq] at h; obtain ⟨rfl, rfl⟩ := h; obtain ⟨tp, p, hv⟩ := hLz.rng; refine Calls.mono (Go.Proofs.Any.strconv_ParseInt_10_at64_range_var Tryz.lays174 a0 c0 hp tp p w hv) (fun e w' hw => ?_); obtain ⟨N, he, _, _, hb⟩ := hw; exact ⟨N, he, hb⟩
  · rw [if_neg c] at h
    exact absurd h (by simp)


end Go.Proofs.YteiokhfikbndbaaGreatDoor.A
