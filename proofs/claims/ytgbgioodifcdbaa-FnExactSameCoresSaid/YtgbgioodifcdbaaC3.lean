/- Walks of the program's functions: each Go function's answer as a plain Lean function, and that the call comes to it. Written by a program. Conditions: those in each theorem's own head. -/
import Derived.Test.YtgbgioodifcdbaaC3M
import Derived.Test.YtgbgioodifcdbaaC0
import Derived.Test.YtgbgioodifcdbaaC2
namespace Go.Proofs.Ytgbgioodifcdbaa.C
open Go.RowKit Go.Proofs.YtgbgioodifcdbaaW.PrintWords Go.Proofs.YtgbgioodifcdbaaW.PrintLast Go.Proofs.YtgbgioodifcdbaaW.PrintMore
attribute [local go_sem] max2_int min2_int max_two min_two max_three min_three max_four min_four   -- for this text's walks alone
set_option linter.unusedVariables false
set_option linter.unusedSimpArgs false
set_option maxHeartbeats 8000000
set_option maxRecDepth 100000
theorem spec_SameCores.calls (k : Nat) (A0 : Option Addr) (c0 : Nat) (l0 : List (S34)) (A1 : Option Addr) (c1 : Nat) (l1 : List (S34)) (r : Bool) (w : World) (hr0 : Kd.C k34 w A0 l0.length l0) (hc0 : l0.length ≤ c0) (hr1 : Kd.C k34 w A1 l1.length l1) (hc1 : l1.length ≤ c1) (h : spec_SameCores.f k l0 l1 = some r) :
    Calls Try.prog 5 #[.slice A0 l0.length c0, .slice A1 l1.length c1] w fun e w' => e = .returned (.bool r) ∧ Below w.heap.size w w' := by
  have HR0 := ak hr0; have HC0 := ak hc0; clear hr0 hc0; have HR1 := ak hr1; have HC1 := ak hc1; clear hr1 hc1; have HB := ak (Below.refl w.heap.size w); have H := h; clear h; unfold spec_SameCores.f at H; by_cases c3 : (l0.length : Int) = (l1.length : Int)
  ·rw [if_pos c3] at H
   have c3b0 : ((l0.length : Int) == (l1.length : Int)) = true := beq_iff_eq.mpr c3; have c3b1 : ((l0.length : Int) != (l1.length : Int)) = false := bne_eq_false_iff_eq.mpr c3
   have c3b2 : (l0.length == l1.length) = true := by first | simpa using c3 | (simp at c3 ⊢; omega)
   clear c3; have H' := ak H; clear H; go_enter Try.func5, Try.ntmps5; go_wp2; go_loopg [5] k (fun kq v5 w' => ∃ (x5_1 : Int), v5 = .int .i64 x5_1 ∧ Aside0 (spec_SameCores.l0 kq l0 l1 x5_1 = some r) ∧ Aside0 (kq ≤ k) ∧ Aside0 (Below w.heap.size w w'))
   case atStart => exact ⟨(0), d3_2, H', ⟨Nat.le_refl _⟩, ⟨c3_1⟩⟩
   case round =>
    clear H'
    (try clear c1); (try clear p2); (try clear c3); (try clear c3b0); (try clear c3b1); (try clear c3b2)
    obtain ⟨x5_1, rfl, HA, HK1, HB⟩ := hrel
    cases gk with
    | zero => exact absurd HA.out (by simp [spec_SameCores.l0])
    | succ k1 =>
     have H := HA.out; clear HA; simp only [spec_SameCores.l0] at H; by_cases c4 : x5_1 < (l0.length : Int)
     ·rw [if_pos c4] at H
      have c4b0 : decide (x5_1 < (l0.length : Int)) = true := decide_eq_true c4; clear c4; have HC5 := ak H; clear H; go_upto_region 6 with (fail); go_cut [93] (fun v93 wc => ∃ (kq : Nat) (x93_4 : Bool), v93 = .bool x93_4 ∧ Aside0 (spec_SameCores.j1 kq l0 l1 x5_1 x93_4 = some r) ∧ Aside0 (kq ≤ k1) ∧ Aside0 (Below w.heap.size w wc))
      case first =>
       have H := HC5.out; clear HC5; by_cases c6 : 0 ≤ x5_1
       ·rw [if_pos c6] at H
        have c6b0 : decide (0 ≤ x5_1) = true := decide_eq_true c6; clear c6
        (first | rw [c6b0] | (simp only [i64_w, i32_w]; rw [c6b0]) | skip)
        by_cases c7 : x5_1 < (l1.length : Int)
        ·rw [if_pos c7] at H
         have c7b0 : decide (x5_1 < (l1.length : Int)) = true := decide_eq_true c7; clear c7; by_cases c8 : ((rd_T34 l0 x5_1).f0) = ((rd_T34 l1 x5_1).f0)
         ·rw [if_pos c8] at H
          have c8b0 : (((rd_T34 l0 x5_1).f0) == ((rd_T34 l1 x5_1).f0)) = true := beq_iff_eq.mpr c8; have c8b1 : (((rd_T34 l0 x5_1).f0) != ((rd_T34 l1 x5_1).f0)) = false := bne_eq_false_iff_eq.mpr c8; clear c8; by_cases c9 : ((rd_T34 l0 x5_1).f1) = ((rd_T34 l1 x5_1).f1)
          ·rw [if_pos c9] at H
           have c9b0 : (((rd_T34 l0 x5_1).f1) == ((rd_T34 l1 x5_1).f1)) = true := beq_iff_eq.mpr c9; have c9b1 : (((rd_T34 l0 x5_1).f1) != ((rd_T34 l1 x5_1).f1)) = false := bne_eq_false_iff_eq.mpr c9; clear c9; by_cases c10 : ((rd_T34 l0 x5_1).f2) = ((rd_T34 l1 x5_1).f2)
           ·rw [if_pos c10] at H
            have c10b0 : (((rd_T34 l0 x5_1).f2) == ((rd_T34 l1 x5_1).f2)) = true := beq_iff_eq.mpr c10; have c10b1 : (((rd_T34 l0 x5_1).f2) != ((rd_T34 l1 x5_1).f2)) = false := bne_eq_false_iff_eq.mpr c10; clear c10; by_cases c11 : ((rd_T34 l0 x5_1).f3) = ((rd_T34 l1 x5_1).f3)
            ·rw [if_pos c11] at H
             have c11b0 : (((rd_T34 l0 x5_1).f3) == ((rd_T34 l1 x5_1).f3)) = true := beq_iff_eq.mpr c11; have c11b1 : (((rd_T34 l0 x5_1).f3) != ((rd_T34 l1 x5_1).f3)) = false := bne_eq_false_iff_eq.mpr c11; clear c11; by_cases c12 : ((rd_T34 l0 x5_1).f4).toList = ((rd_T34 l1 x5_1).f4).toList
             ·rw [if_pos c12] at H
              have c12b0 : (((rd_T34 l0 x5_1).f4).toList == ((rd_T34 l1 x5_1).f4).toList) = true := beq_iff_eq.mpr c12; have c12b1 : (((rd_T34 l0 x5_1).f4).toList != ((rd_T34 l1 x5_1).f4).toList) = false := bne_eq_false_iff_eq.mpr c12; clear c12; replace H := Option.bind_eq_some_iff.mp H; obtain ⟨t122, A130, H⟩ := H; (try dsimp -simprocs only at H); have A13 := ak A130; clear A130; have H' := ak H; clear H
              try go_wp2
              have n0_ := ak (below_drew1 HB.out); clear HB; have HB := n0_; clear n0_; have p110 : 0 ≤ (x5_1 : Int) := of_decide_eq_true d3_1; have q110 : x5_1 < (l0.length : Int) := of_decide_eq_true d3_1; obtain ⟨ad110, A110_5, c110_5, e110, hx110_0, hx110_1, hx110_2, hx110_3, hx110_4, hx110_5, hl110_5, hi110_5⟩ := at_T34 HR0.out x5_1 p110 q110; have hw110_5 := hx110_5; have hw110_4 := hx110_4; have hw110_3 := hx110_3; have hw110_2 := hx110_2; have hw110_1 := hx110_1; have hw110_0 := hx110_0
              cases e110
              replace hx110_0 := (HB.out.cell (World.block_lt_of_cell? w _ hx110_0)).trans hx110_0; replace hx110_1 := (HB.out.cell (World.block_lt_of_cell? w _ hx110_1)).trans hx110_1; replace hx110_2 := (HB.out.cell (World.block_lt_of_cell? w _ hx110_2)).trans hx110_2; replace hx110_3 := (HB.out.cell (World.block_lt_of_cell? w _ hx110_3)).trans hx110_3; replace hx110_4 := (HB.out.cell (World.block_lt_of_cell? w _ hx110_4)).trans hx110_4; replace hx110_5 := (HB.out.cell (World.block_lt_of_cell? w _ hx110_5)).trans hx110_5; have HR110_5 := ak hi110_5; have HC110_5 := ak hl110_5; clear hi110_5 hl110_5; replace p110 := eq_true p110; replace q110 := eq_true q110; have p111 : 0 ≤ (x5_1 : Int) := of_decide_eq_true d3_1; have q111 : x5_1 < (l1.length : Int) := of_decide_eq_true d3_1; obtain ⟨ad111, A111_5, c111_5, e111, hx111_0, hx111_1, hx111_2, hx111_3, hx111_4, hx111_5, hl111_5, hi111_5⟩ := at_T34 HR1.out x5_1 p111 q111; have hw111_5 := hx111_5; have hw111_4 := hx111_4; have hw111_3 := hx111_3; have hw111_2 := hx111_2; have hw111_1 := hx111_1; have hw111_0 := hx111_0
              cases e111
              replace hx111_0 := (HB.out.cell (World.block_lt_of_cell? w _ hx111_0)).trans hx111_0; replace hx111_1 := (HB.out.cell (World.block_lt_of_cell? w _ hx111_1)).trans hx111_1; replace hx111_2 := (HB.out.cell (World.block_lt_of_cell? w _ hx111_2)).trans hx111_2; replace hx111_3 := (HB.out.cell (World.block_lt_of_cell? w _ hx111_3)).trans hx111_3; replace hx111_4 := (HB.out.cell (World.block_lt_of_cell? w _ hx111_4)).trans hx111_4; replace hx111_5 := (HB.out.cell (World.block_lt_of_cell? w _ hx111_5)).trans hx111_5; have HR111_5 := ak hi111_5; have HC111_5 := ak hl111_5; clear hi111_5 hl111_5; replace p111 := eq_true p111; replace q111 := eq_true q111; have p112 : 0 ≤ (x5_1 : Int) := of_decide_eq_true d3_1; have q112 : x5_1 < (l0.length : Int) := of_decide_eq_true d3_1; obtain ⟨ad112, A112_5, c112_5, e112, hx112_0, hx112_1, hx112_2, hx112_3, hx112_4, hx112_5, hl112_5, hi112_5⟩ := at_T34 HR0.out x5_1 p112 q112; have hw112_5 := hx112_5; have hw112_4 := hx112_4; have hw112_3 := hx112_3; have hw112_2 := hx112_2; have hw112_1 := hx112_1; have hw112_0 := hx112_0; obtain rfl : ad110 = ad112 := (by injection e112); replace hx112_0 := (HB.out.cell (World.block_lt_of_cell? w _ hx112_0)).trans hx112_0; replace hx112_1 := (HB.out.cell (World.block_lt_of_cell? w _ hx112_1)).trans hx112_1; replace hx112_2 := (HB.out.cell (World.block_lt_of_cell? w _ hx112_2)).trans hx112_2; replace hx112_3 := (HB.out.cell (World.block_lt_of_cell? w _ hx112_3)).trans hx112_3
              replace hx112_4 := (HB.out.cell (World.block_lt_of_cell? w _ hx112_4)).trans hx112_4; replace hx112_5 := (HB.out.cell (World.block_lt_of_cell? w _ hx112_5)).trans hx112_5; have HR112_5 := ak hi112_5; have HC112_5 := ak hl112_5; clear hi112_5 hl112_5; replace p112 := eq_true p112; replace q112 := eq_true q112; have ea_ := Option.some.inj (hx110_5.symm.trans hx112_5); injection ea_ with ea_ en_ ec_; subst ea_; subst ec_; clear en_; have p113 : 0 ≤ (x5_1 : Int) := of_decide_eq_true d3_1; have q113 : x5_1 < (l1.length : Int) := of_decide_eq_true d3_1; obtain ⟨ad113, A113_5, c113_5, e113, hx113_0, hx113_1, hx113_2, hx113_3, hx113_4, hx113_5, hl113_5, hi113_5⟩ := at_T34 HR1.out x5_1 p113 q113; have hw113_5 := hx113_5; have hw113_4 := hx113_4; have hw113_3 := hx113_3; have hw113_2 := hx113_2; have hw113_1 := hx113_1; have hw113_0 := hx113_0; obtain rfl : ad111 = ad113 := (by injection e113); replace hx113_0 := (HB.out.cell (World.block_lt_of_cell? w _ hx113_0)).trans hx113_0; replace hx113_1 := (HB.out.cell (World.block_lt_of_cell? w _ hx113_1)).trans hx113_1; replace hx113_2 := (HB.out.cell (World.block_lt_of_cell? w _ hx113_2)).trans hx113_2; replace hx113_3 := (HB.out.cell (World.block_lt_of_cell? w _ hx113_3)).trans hx113_3; replace hx113_4 := (HB.out.cell (World.block_lt_of_cell? w _ hx113_4)).trans hx113_4; replace hx113_5 := (HB.out.cell (World.block_lt_of_cell? w _ hx113_5)).trans hx113_5; have HR113_5 := ak hi113_5; have HC113_5 := ak hl113_5
              clear hi113_5 hl113_5; replace p113 := eq_true p113; replace q113 := eq_true q113; have ea_ := Option.some.inj (hx111_5.symm.trans hx113_5); injection ea_ with ea_ en_ ec_; subst ea_; subst ec_; clear en_; have p114 : 0 ≤ (x5_1 : Int) := of_decide_eq_true d3_1; have q114 : x5_1 < (l0.length : Int) := of_decide_eq_true d3_1; obtain ⟨ad114, A114_5, c114_5, e114, hx114_0, hx114_1, hx114_2, hx114_3, hx114_4, hx114_5, hl114_5, hi114_5⟩ := at_T34 HR0.out x5_1 p114 q114; have hw114_5 := hx114_5; have hw114_4 := hx114_4; have hw114_3 := hx114_3; have hw114_2 := hx114_2; have hw114_1 := hx114_1; have hw114_0 := hx114_0; obtain rfl : ad110 = ad114 := (by injection e114); replace hx114_0 := (HB.out.cell (World.block_lt_of_cell? w _ hx114_0)).trans hx114_0; replace hx114_1 := (HB.out.cell (World.block_lt_of_cell? w _ hx114_1)).trans hx114_1; replace hx114_2 := (HB.out.cell (World.block_lt_of_cell? w _ hx114_2)).trans hx114_2; replace hx114_3 := (HB.out.cell (World.block_lt_of_cell? w _ hx114_3)).trans hx114_3; replace hx114_4 := (HB.out.cell (World.block_lt_of_cell? w _ hx114_4)).trans hx114_4; replace hx114_5 := (HB.out.cell (World.block_lt_of_cell? w _ hx114_5)).trans hx114_5; have HR114_5 := ak hi114_5; have HC114_5 := ak hl114_5; clear hi114_5 hl114_5; replace p114 := eq_true p114; replace q114 := eq_true q114; have ea_ := Option.some.inj (hx110_5.symm.trans hx114_5); injection ea_ with ea_ en_ ec_; subst ea_; subst ec_; clear en_
              have p115 : 0 ≤ (x5_1 : Int) := of_decide_eq_true d3_1; have q115 : x5_1 < (l1.length : Int) := of_decide_eq_true d3_1; obtain ⟨ad115, A115_5, c115_5, e115, hx115_0, hx115_1, hx115_2, hx115_3, hx115_4, hx115_5, hl115_5, hi115_5⟩ := at_T34 HR1.out x5_1 p115 q115; have hw115_5 := hx115_5; have hw115_4 := hx115_4; have hw115_3 := hx115_3; have hw115_2 := hx115_2; have hw115_1 := hx115_1; have hw115_0 := hx115_0; obtain rfl : ad111 = ad115 := (by injection e115); replace hx115_0 := (HB.out.cell (World.block_lt_of_cell? w _ hx115_0)).trans hx115_0; replace hx115_1 := (HB.out.cell (World.block_lt_of_cell? w _ hx115_1)).trans hx115_1; replace hx115_2 := (HB.out.cell (World.block_lt_of_cell? w _ hx115_2)).trans hx115_2; replace hx115_3 := (HB.out.cell (World.block_lt_of_cell? w _ hx115_3)).trans hx115_3; replace hx115_4 := (HB.out.cell (World.block_lt_of_cell? w _ hx115_4)).trans hx115_4; replace hx115_5 := (HB.out.cell (World.block_lt_of_cell? w _ hx115_5)).trans hx115_5; have HR115_5 := ak hi115_5; have HC115_5 := ak hl115_5; clear hi115_5 hl115_5; replace p115 := eq_true p115; replace q115 := eq_true q115; have ea_ := Option.some.inj (hx111_5.symm.trans hx115_5); injection ea_ with ea_ en_ ec_; subst ea_; subst ec_; clear en_; have p116 : 0 ≤ (x5_1 : Int) := of_decide_eq_true d3_1; have q116 : x5_1 < (l0.length : Int) := of_decide_eq_true d3_1
              obtain ⟨ad116, A116_5, c116_5, e116, hx116_0, hx116_1, hx116_2, hx116_3, hx116_4, hx116_5, hl116_5, hi116_5⟩ := at_T34 HR0.out x5_1 p116 q116; have hw116_5 := hx116_5; have hw116_4 := hx116_4; have hw116_3 := hx116_3; have hw116_2 := hx116_2; have hw116_1 := hx116_1; have hw116_0 := hx116_0; obtain rfl : ad110 = ad116 := (by injection e116); replace hx116_0 := (HB.out.cell (World.block_lt_of_cell? w _ hx116_0)).trans hx116_0; replace hx116_1 := (HB.out.cell (World.block_lt_of_cell? w _ hx116_1)).trans hx116_1; replace hx116_2 := (HB.out.cell (World.block_lt_of_cell? w _ hx116_2)).trans hx116_2; replace hx116_3 := (HB.out.cell (World.block_lt_of_cell? w _ hx116_3)).trans hx116_3; replace hx116_4 := (HB.out.cell (World.block_lt_of_cell? w _ hx116_4)).trans hx116_4; replace hx116_5 := (HB.out.cell (World.block_lt_of_cell? w _ hx116_5)).trans hx116_5; have HR116_5 := ak hi116_5; have HC116_5 := ak hl116_5; clear hi116_5 hl116_5; replace p116 := eq_true p116; replace q116 := eq_true q116; have ea_ := Option.some.inj (hx110_5.symm.trans hx116_5); injection ea_ with ea_ en_ ec_; subst ea_; subst ec_; clear en_; have p117 : 0 ≤ (x5_1 : Int) := of_decide_eq_true d3_1; have q117 : x5_1 < (l1.length : Int) := of_decide_eq_true d3_1; obtain ⟨ad117, A117_5, c117_5, e117, hx117_0, hx117_1, hx117_2, hx117_3, hx117_4, hx117_5, hl117_5, hi117_5⟩ := at_T34 HR1.out x5_1 p117 q117; have hw117_5 := hx117_5; have hw117_4 := hx117_4; have hw117_3 := hx117_3
              have hw117_2 := hx117_2; have hw117_1 := hx117_1; have hw117_0 := hx117_0; obtain rfl : ad111 = ad117 := (by injection e117); replace hx117_0 := (HB.out.cell (World.block_lt_of_cell? w _ hx117_0)).trans hx117_0; replace hx117_1 := (HB.out.cell (World.block_lt_of_cell? w _ hx117_1)).trans hx117_1; replace hx117_2 := (HB.out.cell (World.block_lt_of_cell? w _ hx117_2)).trans hx117_2; replace hx117_3 := (HB.out.cell (World.block_lt_of_cell? w _ hx117_3)).trans hx117_3; replace hx117_4 := (HB.out.cell (World.block_lt_of_cell? w _ hx117_4)).trans hx117_4; replace hx117_5 := (HB.out.cell (World.block_lt_of_cell? w _ hx117_5)).trans hx117_5; have HR117_5 := ak hi117_5; have HC117_5 := ak hl117_5; clear hi117_5 hl117_5; replace p117 := eq_true p117; replace q117 := eq_true q117; have ea_ := Option.some.inj (hx111_5.symm.trans hx117_5); injection ea_ with ea_ en_ ec_; subst ea_; subst ec_; clear en_; have p118 : 0 ≤ (x5_1 : Int) := of_decide_eq_true d3_1; have q118 : x5_1 < (l0.length : Int) := of_decide_eq_true d3_1; obtain ⟨ad118, A118_5, c118_5, e118, hx118_0, hx118_1, hx118_2, hx118_3, hx118_4, hx118_5, hl118_5, hi118_5⟩ := at_T34 HR0.out x5_1 p118 q118; have hw118_5 := hx118_5; have hw118_4 := hx118_4; have hw118_3 := hx118_3; have hw118_2 := hx118_2; have hw118_1 := hx118_1; have hw118_0 := hx118_0; obtain rfl : ad110 = ad118 := (by injection e118); replace hx118_0 := (HB.out.cell (World.block_lt_of_cell? w _ hx118_0)).trans hx118_0
              replace hx118_1 := (HB.out.cell (World.block_lt_of_cell? w _ hx118_1)).trans hx118_1; replace hx118_2 := (HB.out.cell (World.block_lt_of_cell? w _ hx118_2)).trans hx118_2; replace hx118_3 := (HB.out.cell (World.block_lt_of_cell? w _ hx118_3)).trans hx118_3; replace hx118_4 := (HB.out.cell (World.block_lt_of_cell? w _ hx118_4)).trans hx118_4; replace hx118_5 := (HB.out.cell (World.block_lt_of_cell? w _ hx118_5)).trans hx118_5; have HR118_5 := ak hi118_5; have HC118_5 := ak hl118_5; clear hi118_5 hl118_5; replace p118 := eq_true p118; replace q118 := eq_true q118; have ea_ := Option.some.inj (hx110_5.symm.trans hx118_5); injection ea_ with ea_ en_ ec_; subst ea_; subst ec_; clear en_; have p119 : 0 ≤ (x5_1 : Int) := of_decide_eq_true d3_1; have q119 : x5_1 < (l1.length : Int) := of_decide_eq_true d3_1; obtain ⟨ad119, A119_5, c119_5, e119, hx119_0, hx119_1, hx119_2, hx119_3, hx119_4, hx119_5, hl119_5, hi119_5⟩ := at_T34 HR1.out x5_1 p119 q119; have hw119_5 := hx119_5; have hw119_4 := hx119_4; have hw119_3 := hx119_3; have hw119_2 := hx119_2; have hw119_1 := hx119_1; have hw119_0 := hx119_0; obtain rfl : ad111 = ad119 := (by injection e119); replace hx119_0 := (HB.out.cell (World.block_lt_of_cell? w _ hx119_0)).trans hx119_0; replace hx119_1 := (HB.out.cell (World.block_lt_of_cell? w _ hx119_1)).trans hx119_1; replace hx119_2 := (HB.out.cell (World.block_lt_of_cell? w _ hx119_2)).trans hx119_2
              replace hx119_3 := (HB.out.cell (World.block_lt_of_cell? w _ hx119_3)).trans hx119_3; replace hx119_4 := (HB.out.cell (World.block_lt_of_cell? w _ hx119_4)).trans hx119_4; replace hx119_5 := (HB.out.cell (World.block_lt_of_cell? w _ hx119_5)).trans hx119_5; have HR119_5 := ak hi119_5; have HC119_5 := ak hl119_5; clear hi119_5 hl119_5; replace p119 := eq_true p119; replace q119 := eq_true q119; have ea_ := Option.some.inj (hx111_5.symm.trans hx119_5); injection ea_ with ea_ en_ ec_; subst ea_; subst ec_; clear en_; have p120 : 0 ≤ (x5_1 : Int) := of_decide_eq_true d3_1; have q120 : x5_1 < (l0.length : Int) := of_decide_eq_true d3_1; obtain ⟨ad120, A120_5, c120_5, e120, hx120_0, hx120_1, hx120_2, hx120_3, hx120_4, hx120_5, hl120_5, hi120_5⟩ := at_T34 HR0.out x5_1 p120 q120; have hw120_5 := hx120_5; have hw120_4 := hx120_4; have hw120_3 := hx120_3; have hw120_2 := hx120_2; have hw120_1 := hx120_1; have hw120_0 := hx120_0; obtain rfl : ad110 = ad120 := (by injection e120); replace hx120_0 := (HB.out.cell (World.block_lt_of_cell? w _ hx120_0)).trans hx120_0; replace hx120_1 := (HB.out.cell (World.block_lt_of_cell? w _ hx120_1)).trans hx120_1; replace hx120_2 := (HB.out.cell (World.block_lt_of_cell? w _ hx120_2)).trans hx120_2; replace hx120_3 := (HB.out.cell (World.block_lt_of_cell? w _ hx120_3)).trans hx120_3; replace hx120_4 := (HB.out.cell (World.block_lt_of_cell? w _ hx120_4)).trans hx120_4
              replace hx120_5 := (HB.out.cell (World.block_lt_of_cell? w _ hx120_5)).trans hx120_5; have HR120_5 := ak hi120_5; have HC120_5 := ak hl120_5; clear hi120_5 hl120_5; replace p120 := eq_true p120; replace q120 := eq_true q120; have ea_ := Option.some.inj (hx110_5.symm.trans hx120_5); injection ea_ with ea_ en_ ec_; subst ea_; subst ec_; clear en_; have p121 : 0 ≤ (x5_1 : Int) := of_decide_eq_true d3_1; have q121 : x5_1 < (l1.length : Int) := of_decide_eq_true d3_1; obtain ⟨ad121, A121_5, c121_5, e121, hx121_0, hx121_1, hx121_2, hx121_3, hx121_4, hx121_5, hl121_5, hi121_5⟩ := at_T34 HR1.out x5_1 p121 q121; have hw121_5 := hx121_5; have hw121_4 := hx121_4; have hw121_3 := hx121_3; have hw121_2 := hx121_2; have hw121_1 := hx121_1; have hw121_0 := hx121_0; obtain rfl : ad111 = ad121 := (by injection e121); replace hx121_0 := (HB.out.cell (World.block_lt_of_cell? w _ hx121_0)).trans hx121_0; replace hx121_1 := (HB.out.cell (World.block_lt_of_cell? w _ hx121_1)).trans hx121_1; replace hx121_2 := (HB.out.cell (World.block_lt_of_cell? w _ hx121_2)).trans hx121_2; replace hx121_3 := (HB.out.cell (World.block_lt_of_cell? w _ hx121_3)).trans hx121_3; replace hx121_4 := (HB.out.cell (World.block_lt_of_cell? w _ hx121_4)).trans hx121_4; replace hx121_5 := (HB.out.cell (World.block_lt_of_cell? w _ hx121_5)).trans hx121_5; have HR121_5 := ak hi121_5; have HC121_5 := ak hl121_5; clear hi121_5 hl121_5; replace p121 := eq_true p121; replace q121 := eq_true q121
              have ea_ := Option.some.inj (hx111_5.symm.trans hx121_5); injection ea_ with ea_ en_ ec_; subst ea_; subst ec_; clear en_; clear hx119_5 hx120_0 hx120_1 hx120_2 hx120_3 hx120_4 hx120_5 hx121_0 hx121_1 hx121_2 hx121_3 hx121_4 hx121_5
              refine start_ (n := 77) (S := fun w' => w'.cell? (ad110.add ((x5_1).toNat * 6)) = some (.int .i64 ((rd_T34 l0 x5_1).f0)) ∧ w'.cell? ⟨(ad110.add ((x5_1).toNat * 6)).block, (ad110.add ((x5_1).toNat * 6)).off + 1, none⟩ = some (.int .i64 ((rd_T34 l0 x5_1).f1)) ∧ w'.cell? ⟨(ad110.add ((x5_1).toNat * 6)).block, (ad110.add ((x5_1).toNat * 6)).off + 2, none⟩ = some (.int .i64 ((rd_T34 l0 x5_1).f2)) ∧ w'.cell? ⟨(ad110.add ((x5_1).toNat * 6)).block, (ad110.add ((x5_1).toNat * 6)).off + 3, none⟩ = some (.int .i64 ((rd_T34 l0 x5_1).f3)) ∧ w'.cell? ⟨(ad110.add ((x5_1).toNat * 6)).block, (ad110.add ((x5_1).toNat * 6)).off + 4, none⟩ = some (.string ((rd_T34 l0 x5_1).f4)) ∧ w'.cell? ⟨(ad110.add ((x5_1).toNat * 6)).block, (ad110.add ((x5_1).toNat * 6)).off + 5, none⟩ = some (.slice A110_5 ((rd_T34 l0 x5_1).f5).length c110_5) ∧ w'.cell? (ad111.add ((x5_1).toNat * 6)) = some (.int .i64 ((rd_T34 l1 x5_1).f0)) ∧ w'.cell? ⟨(ad111.add ((x5_1).toNat * 6)).block, (ad111.add ((x5_1).toNat * 6)).off + 1, none⟩ = some (.int .i64 ((rd_T34 l1 x5_1).f1)) ∧ w'.cell? ⟨(ad111.add ((x5_1).toNat * 6)).block, (ad111.add ((x5_1).toNat * 6)).off + 2, none⟩ = some (.int .i64 ((rd_T34 l1 x5_1).f2)) ∧ w'.cell? ⟨(ad111.add ((x5_1).toNat * 6)).block, (ad111.add ((x5_1).toNat * 6)).off + 3, none⟩ = some (.int .i64 ((rd_T34 l1 x5_1).f3)) ∧ w'.cell? ⟨(ad111.add ((x5_1).toNat * 6)).block, (ad111.add ((x5_1).toNat * 6)).off + 4, none⟩ = some (.string ((rd_T34 l1 x5_1).f4)) ∧ w'.cell? ⟨(ad111.add ((x5_1).toNat * 6)).block, (ad111.add ((x5_1).toNat * 6)).off + 5, none⟩ = some (.slice A111_5 ((rd_T34 l1 x5_1).f5).length c111_5)) (ds := []) m3_0 (by kernel_rfl) rfl rfl ⟨((HB.out.cell (World.block_lt_of_cell? w _ hw110_0)).trans hw110_0), ((HB.out.cell (World.block_lt_of_cell? w _ hw110_1)).trans hw110_1), ((HB.out.cell (World.block_lt_of_cell? w _ hw110_2)).trans hw110_2), ((HB.out.cell (World.block_lt_of_cell? w _ hw110_3)).trans hw110_3), ((HB.out.cell (World.block_lt_of_cell? w _ hw110_4)).trans hw110_4), ((HB.out.cell (World.block_lt_of_cell? w _ hw110_5)).trans hw110_5), ((HB.out.cell (World.block_lt_of_cell? w _ hw111_0)).trans hw111_0), ((HB.out.cell (World.block_lt_of_cell? w _ hw111_1)).trans hw111_1), ((HB.out.cell (World.block_lt_of_cell? w _ hw111_2)).trans hw111_2), ((HB.out.cell (World.block_lt_of_cell? w _ hw111_3)).trans hw111_3), ((HB.out.cell (World.block_lt_of_cell? w _ hw111_4)).trans hw111_4), ((HB.out.cell (World.block_lt_of_cell? w _ hw111_5)).trans hw111_5)⟩ (fun hHeld => ?_); refine with_tabW spec_SameCores.tab6 spec_SameCores.bits6 (fun HT_ HW_ => ?_)
              generalize wr.drew = w14 at HB HR110_5 HR111_5 HR112_5 HR113_5 HR114_5 HR115_5 HR116_5 HR117_5 HR118_5 HR119_5 HR120_5 HR121_5 hx110_0 hx110_1 hx110_2 hx110_3 hx110_4 hx110_5 hx111_0 hx111_1 hx111_2 hx111_3 hx111_4 hx111_5 hx112_0 hx112_1 hx112_2 hx112_3 hx112_4 hx112_5 hx113_0 hx113_1 hx113_2 hx113_3 hx113_4 hx113_5 hx114_0 hx114_1 hx114_2 hx114_3 hx114_4 hx114_5 hx115_0 hx115_1 hx115_2 hx115_3 hx115_4 hx115_5 hx116_0 hx116_1 hx116_2 hx116_3 hx116_4 hx116_5 hx117_0 hx117_1 hx117_2 hx117_3 hx117_4 hx117_5 hx118_0 hx118_1 hx118_2 hx118_3 hx118_4 hx118_5 hx119_0 hx119_1 hx119_2 hx119_3 hx119_4 hHeld ⊢; refine pure_ (i := 0) (N := some 17) (v := ?_) (a' := ?_) m3_1 rfl rfl (any_of HT_.out (by kernel_rfl)) (fun _ _ _ h => h) (Or.inl ⟨by rfl, ?_⟩) ?_ ?_; rotate_left
              · intro w'
                go_simp; (with_reducible rfl)
              rotate_left
              · simp only [Act.put, pa3_1, pa3_2, pa3_3, i64_w, i32_w]
                rfl
              refine pure_ (i := 1) (N := some 18) (v := ?_) (a' := ?_) m3_2 rfl rfl (any_of HT_.out (by kernel_rfl)) (fun _ _ _ h => h) (Or.inl ⟨by rfl, ?_⟩) ?_ ?_; rotate_left
              · intro w'
                go_simp; (with_reducible rfl)
              rotate_left
              · simp only [Act.put, pa3_1, pa3_2, pa3_3, i64_w, i32_w]
                rfl
              refine pure_ (i := 2) (N := some 19) (v := ?_) (a' := ?_) m3_3 rfl rfl (any_of HT_.out (by kernel_rfl)) (fun _ _ _ h => h) (Or.inl ⟨by rfl, ?_⟩) ?_ ?_; rotate_left
              · intro w'
                go_simp; (with_reducible rfl)
              rotate_left
              · simp only [Act.put, pa3_1, pa3_2, pa3_3, i64_w, i32_w]
                rfl
              refine pure_ (i := 3) (N := some 20) (v := ?_) (a' := ?_) m3_4 rfl rfl (any_of HT_.out (by kernel_rfl)) (fun _ _ _ h => h) (Or.inl ⟨by rfl, ?_⟩) ?_ ?_; rotate_left
              · intro w'
                go_simp; (with_reducible rfl)
              rotate_left
              · simp only [Act.put, pa3_1, pa3_2, pa3_3, i64_w, i32_w]
                rfl
              refine pure_ (i := 5) (N := some 22) (v := ?_) (a' := ?_) m3_5 rfl rfl (any_of HT_.out (by kernel_rfl)) (fun _ _ _ h => h) (Or.inl ⟨by rfl, ?_⟩) ?_ ?_; rotate_left
              · intro w'
                go_simp; (with_reducible rfl)
              rotate_left
              · simp only [Act.put, pa3_1, pa3_2, pa3_3, i64_w, i32_w]
                rfl
              refine pure_ (i := 6) (N := some 23) (v := ?_) (a' := ?_) m3_6 rfl rfl (any_of HT_.out (by kernel_rfl)) (fun _ _ _ h => h) (Or.inl ⟨by rfl, ?_⟩) ?_ ?_; rotate_left
              · intro w'
                go_simp; (with_reducible rfl)
              rotate_left
              · simp only [Act.put, pa3_1, pa3_2, pa3_3, i64_w, i32_w]
                rfl
              refine pure_ (i := 7) (N := some 24) (v := ?_) (a' := ?_) m3_7 rfl rfl (any_of HT_.out (by kernel_rfl)) (fun _ _ _ h => h) (Or.inl ⟨by rfl, ?_⟩) ?_ ?_; rotate_left
              · intro w'
                go_simp; (with_reducible rfl)
              rotate_left
              · simp only [Act.put, pa3_1, pa3_2, pa3_3, i64_w, i32_w]
                rfl
              refine pure_ (i := 8) (N := some 25) (v := ?_) (a' := ?_) m3_8 rfl rfl (any_of HT_.out (by kernel_rfl)) (fun _ _ _ h => h) (Or.inl ⟨by rfl, ?_⟩) ?_ ?_; rotate_left
              · intro w'
                go_simp; (with_reducible rfl)
              rotate_left
              · simp only [Act.put, pa3_1, pa3_2, pa3_3, i64_w, i32_w]
                rfl
              refine take_ (i := 4) (N := some 21) (v := ?_) (a' := ?_) m3_9 rfl rfl (take_ofW HT_.out HW_.out (by kernel_rfl)) (fun _ _ _ h => h) (Or.inl ⟨by rfl, ?_⟩) hHeld ?_ ?_; rotate_left
              · rintro w' ⟨s0, s1, s2, s3, s4, s5, s6, s7, s8, s9, s10, s11⟩
                go_simp; (with_reducible rfl)
              rotate_left
              · simp only [Act.put, pa3_1, pa3_2, pa3_3, i64_w, i32_w]
                rfl
              refine take_ (i := 9) (N := some 26) (v := ?_) (a' := ?_) m3_10 rfl rfl (take_ofW HT_.out HW_.out (by kernel_rfl)) (fun _ _ _ h => h) (Or.inl ⟨by rfl, ?_⟩) hHeld ?_ ?_; rotate_left
              · rintro w' ⟨s0, s1, s2, s3, s4, s5, s6, s7, s8, s9, s10, s11⟩
                go_simp; (with_reducible rfl)
              rotate_left
              · simp only [Act.put, pa3_1, pa3_2, pa3_3, i64_w, i32_w]
                rfl
              refine pure_ (i := 10) (N := some 27) (v := ?_) (a' := ?_) m3_11 rfl rfl (any_of HT_.out (by kernel_rfl)) (fun _ _ _ h => h) (Or.inl ⟨by rfl, ?_⟩) ?_ ?_; rotate_left
              · intro w'
                go_simp; (with_reducible rfl)
              rotate_left
              · simp only [Act.put, pa3_1, pa3_2, pa3_3, i64_w, i32_w]
                rfl
              refine pure_ (i := 11) (N := some 28) (v := ?_) (a' := ?_) m3_12 rfl rfl (any_of HT_.out (by kernel_rfl)) (fun _ _ _ h => h) (Or.inl ⟨by rfl, ?_⟩) ?_ ?_; rotate_left
              · intro w'
                go_simp; (with_reducible rfl)
              rotate_left
              · simp only [Act.put, pa3_1, pa3_2, pa3_3, i64_w, i32_w]
                rfl
              refine pure_ (i := 12) (N := some 29) (v := ?_) (a' := ?_) m3_13 rfl rfl (any_of HT_.out (by kernel_rfl)) (fun _ _ _ h => h) (Or.inl ⟨by rfl, ?_⟩) ?_ ?_; rotate_left
              · intro w'
                go_simp; (with_reducible rfl)
              rotate_left
              · simp only [Act.put, pa3_1, pa3_2, pa3_3, i64_w, i32_w]
                rfl
              refine pure_ (i := 13) (N := some 30) (v := ?_) (a' := ?_) m3_14 rfl rfl (any_of HT_.out (by kernel_rfl)) (fun _ _ _ h => h) (Or.inl ⟨by rfl, ?_⟩) ?_ ?_; rotate_left
              · intro w'
                go_simp; (with_reducible rfl)
              rotate_left
              · simp only [Act.put, pa3_1, pa3_2, pa3_3, i64_w, i32_w]
                rfl
              refine pure_ (i := 14) (N := some 31) (v := ?_) (a' := ?_) m3_15 rfl rfl (any_of HT_.out (by kernel_rfl)) (fun _ _ _ h => h) (Or.inl ⟨by rfl, ?_⟩) ?_ ?_; rotate_left
              · intro w'
                go_simp; (with_reducible rfl)
              rotate_left
              · simp only [Act.put, pa3_1, pa3_2, pa3_3, i64_w, i32_w]
                rfl
              refine pure_ (i := 15) (N := some 32) (v := ?_) (a' := ?_) m3_16 rfl rfl (any_of HT_.out (by kernel_rfl)) (fun _ _ _ h => h) (Or.inl ⟨by rfl, ?_⟩) ?_ ?_; rotate_left
              · intro w'
                go_simp; (with_reducible rfl)
              rotate_left
              · simp only [Act.put, pa3_1, pa3_2, pa3_3, i64_w, i32_w]
                rfl
              refine pure_ (i := 17) (N := some 34) (v := ?_) (a' := ?_) m3_17 rfl rfl (any_of HT_.out (by kernel_rfl)) (fun _ _ _ h => h) (Or.inl ⟨by rfl, ?_⟩) ?_ ?_; rotate_left
              · intro w'
                go_simp; (with_reducible rfl)
              rotate_left
              · simp only [Act.put, pa3_1, pa3_2, pa3_3, i64_w, i32_w]
                rfl
              refine pure_ (i := 18) (N := some 35) (v := ?_) (a' := ?_) m3_18 rfl rfl (any_of HT_.out (by kernel_rfl)) (fun _ _ _ h => h) (Or.inl ⟨by rfl, ?_⟩) ?_ ?_; rotate_left
              · intro w'
                go_simp; (with_reducible rfl)
              rotate_left
              · simp only [Act.put, pa3_1, pa3_2, pa3_3, i64_w, i32_w]
                rfl
              refine pure_ (i := 19) (N := some 36) (v := ?_) (a' := ?_) m3_19 rfl rfl (any_of HT_.out (by kernel_rfl)) (fun _ _ _ h => h) (Or.inl ⟨by rfl, ?_⟩) ?_ ?_; rotate_left
              · intro w'
                go_simp; (with_reducible rfl)
              rotate_left
              · simp only [Act.put, pa3_1, pa3_2, pa3_3, i64_w, i32_w]
                rfl
              refine pure_ (i := 20) (N := some 37) (v := ?_) (a' := ?_) m3_20 rfl rfl (any_of HT_.out (by kernel_rfl)) (fun _ _ _ h => h) (Or.inl ⟨by rfl, ?_⟩) ?_ ?_; rotate_left
              · intro w'
                go_simp; (with_reducible rfl)
              rotate_left
              · simp only [Act.put, pa3_1, pa3_2, pa3_3, i64_w, i32_w]
                rfl
              refine take_ (i := 16) (N := some 33) (v := ?_) (a' := ?_) m3_25 rfl rfl (take_ofW HT_.out HW_.out (by kernel_rfl)) (fun _ _ _ h => h) (Or.inl ⟨by rfl, ?_⟩) hHeld ?_ ?_; rotate_left
              · rintro w' ⟨s0, s1, s2, s3, s4, s5, s6, s7, s8, s9, s10, s11⟩
                go_simp; (with_reducible rfl)
              rotate_left
              · simp only [Act.put, pa3_1, pa3_2, pa3_3, i64_w, i32_w]
                rfl
              refine take_ (i := 21) (N := some 38) (v := ?_) (a' := ?_) m3_26 rfl rfl (take_ofW HT_.out HW_.out (by kernel_rfl)) (fun _ _ _ h => h) (Or.inl ⟨by rfl, ?_⟩) hHeld ?_ ?_; rotate_left
              · rintro w' ⟨s0, s1, s2, s3, s4, s5, s6, s7, s8, s9, s10, s11⟩
                go_simp; (with_reducible rfl)
              rotate_left
              · simp only [Act.put, pa3_1, pa3_2, pa3_3, i64_w, i32_w]
                rfl
              refine pure_ (i := 22) (N := some 39) (v := ?_) (a' := ?_) m3_27 rfl rfl (any_of HT_.out (by kernel_rfl)) (fun _ _ _ h => h) (Or.inl ⟨by rfl, ?_⟩) ?_ ?_; rotate_left
              · intro w'
                go_simp; (with_reducible rfl)
              rotate_left
              · simp only [Act.put, pa3_1, pa3_2, pa3_3, i64_w, i32_w]
                rfl
              refine pure_ (i := 23) (N := some 40) (v := ?_) (a' := ?_) m3_28 rfl rfl (any_of HT_.out (by kernel_rfl)) (fun _ _ _ h => h) (Or.inl ⟨by rfl, ?_⟩) ?_ ?_; rotate_left
              · intro w'
                go_simp; (with_reducible rfl)
              rotate_left
              · simp only [Act.put, pa3_1, pa3_2, pa3_3, i64_w, i32_w]
                rfl
              refine pure_ (i := 24) (N := some 41) (v := ?_) (a' := ?_) m3_29 rfl rfl (any_of HT_.out (by kernel_rfl)) (fun _ _ _ h => h) (Or.inl ⟨by rfl, ?_⟩) ?_ ?_; rotate_left
              · intro w'
                go_simp; (with_reducible rfl)
              rotate_left
              · simp only [Act.put, pa3_1, pa3_2, pa3_3, i64_w, i32_w]
                rfl
              refine pure_ (i := 25) (N := some 42) (v := ?_) (a' := ?_) m3_30 rfl rfl (any_of HT_.out (by kernel_rfl)) (fun _ _ _ h => h) (Or.inl ⟨by rfl, ?_⟩) ?_ ?_; rotate_left
              · intro w'
                go_simp; (with_reducible rfl)
              rotate_left
              · simp only [Act.put, pa3_1, pa3_2, pa3_3, i64_w, i32_w]
                rfl
              refine pure_ (i := 26) (N := some 43) (v := ?_) (a' := ?_) m3_31 rfl rfl (any_of HT_.out (by kernel_rfl)) (fun _ _ _ h => h) (Or.inl ⟨by rfl, ?_⟩) ?_ ?_; rotate_left
              · intro w'
                go_simp; (with_reducible rfl)
              rotate_left
              · simp only [Act.put, pa3_1, pa3_2, pa3_3, i64_w, i32_w]
                rfl
              refine pure_ (i := 27) (N := some 44) (v := ?_) (a' := ?_) m3_32 rfl rfl (any_of HT_.out (by kernel_rfl)) (fun _ _ _ h => h) (Or.inl ⟨by rfl, ?_⟩) ?_ ?_; rotate_left
              · intro w'
                go_simp; (with_reducible rfl)
              rotate_left
              · simp only [Act.put, pa3_1, pa3_2, pa3_3, i64_w, i32_w]
                rfl
              refine pure_ (i := 28) (N := some 45) (v := ?_) (a' := ?_) m3_33 rfl rfl (any_of HT_.out (by kernel_rfl)) (fun _ _ _ h => h) (Or.inl ⟨by rfl, ?_⟩) ?_ ?_; rotate_left
              · intro w'
                go_simp; (with_reducible rfl)
              rotate_left
              · simp only [Act.put, pa3_1, pa3_2, pa3_3, i64_w, i32_w]
                rfl
              refine pure_ (i := 30) (N := some 47) (v := ?_) (a' := ?_) m3_34 rfl rfl (any_of HT_.out (by kernel_rfl)) (fun _ _ _ h => h) (Or.inl ⟨by rfl, ?_⟩) ?_ ?_; rotate_left
              · intro w'
                go_simp; (with_reducible rfl)
              rotate_left
              · simp only [Act.put, pa3_1, pa3_2, pa3_3, i64_w, i32_w]
                rfl
              refine pure_ (i := 31) (N := some 48) (v := ?_) (a' := ?_) m3_35 rfl rfl (any_of HT_.out (by kernel_rfl)) (fun _ _ _ h => h) (Or.inl ⟨by rfl, ?_⟩) ?_ ?_; rotate_left
              · intro w'
                go_simp; (with_reducible rfl)
              rotate_left
              · simp only [Act.put, pa3_1, pa3_2, pa3_3, i64_w, i32_w]
                rfl
              refine pure_ (i := 32) (N := some 49) (v := ?_) (a' := ?_) m3_36 rfl rfl (any_of HT_.out (by kernel_rfl)) (fun _ _ _ h => h) (Or.inl ⟨by rfl, ?_⟩) ?_ ?_; rotate_left
              · intro w'
                go_simp; (with_reducible rfl)
              rotate_left
              · simp only [Act.put, pa3_1, pa3_2, pa3_3, i64_w, i32_w]
                rfl
              refine pure_ (i := 33) (N := some 50) (v := ?_) (a' := ?_) m3_37 rfl rfl (any_of HT_.out (by kernel_rfl)) (fun _ _ _ h => h) (Or.inl ⟨by rfl, ?_⟩) ?_ ?_; rotate_left
              · intro w'
                go_simp; (with_reducible rfl)
              rotate_left
              · simp only [Act.put, pa3_1, pa3_2, pa3_3, i64_w, i32_w]
                rfl
              refine take_ (i := 29) (N := some 46) (v := ?_) (a' := ?_) m3_42 rfl rfl (take_ofW HT_.out HW_.out (by kernel_rfl)) (fun _ _ _ h => h) (Or.inl ⟨by rfl, ?_⟩) hHeld ?_ ?_; rotate_left
              · rintro w' ⟨s0, s1, s2, s3, s4, s5, s6, s7, s8, s9, s10, s11⟩
                go_simp; (with_reducible rfl)
              rotate_left
              · simp only [Act.put, pa3_1, pa3_2, pa3_3, i64_w, i32_w]
                rfl
              refine take_ (i := 34) (N := some 51) (v := ?_) (a' := ?_) m3_43 rfl rfl (take_ofW HT_.out HW_.out (by kernel_rfl)) (fun _ _ _ h => h) (Or.inl ⟨by rfl, ?_⟩) hHeld ?_ ?_; rotate_left
              · rintro w' ⟨s0, s1, s2, s3, s4, s5, s6, s7, s8, s9, s10, s11⟩
                go_simp; (with_reducible rfl)
              rotate_left
              · simp only [Act.put, pa3_1, pa3_2, pa3_3, i64_w, i32_w]
                rfl
              refine pure_ (i := 35) (N := some 52) (v := ?_) (a' := ?_) m3_44 rfl rfl (any_of HT_.out (by kernel_rfl)) (fun _ _ _ h => h) (Or.inl ⟨by rfl, ?_⟩) ?_ ?_; rotate_left
              · intro w'
                go_simp; (with_reducible rfl)
              rotate_left
              · simp only [Act.put, pa3_1, pa3_2, pa3_3, i64_w, i32_w]
                rfl
              refine pure_ (i := 36) (N := some 53) (v := ?_) (a' := ?_) m3_45 rfl rfl (any_of HT_.out (by kernel_rfl)) (fun _ _ _ h => h) (Or.inl ⟨by rfl, ?_⟩) ?_ ?_; rotate_left
              · intro w'
                go_simp; (with_reducible rfl)
              rotate_left
              · simp only [Act.put, pa3_1, pa3_2, pa3_3, i64_w, i32_w]
                rfl
              refine pure_ (i := 37) (N := some 54) (v := ?_) (a' := ?_) m3_46 rfl rfl (any_of HT_.out (by kernel_rfl)) (fun _ _ _ h => h) (Or.inl ⟨by rfl, ?_⟩) ?_ ?_; rotate_left
              · intro w'
                go_simp; (with_reducible rfl)
              rotate_left
              · simp only [Act.put, pa3_1, pa3_2, pa3_3, i64_w, i32_w]
                rfl
              refine pure_ (i := 38) (N := some 55) (v := ?_) (a' := ?_) m3_47 rfl rfl (any_of HT_.out (by kernel_rfl)) (fun _ _ _ h => h) (Or.inl ⟨by rfl, ?_⟩) ?_ ?_; rotate_left
              · intro w'
                go_simp; (with_reducible rfl)
              rotate_left
              · simp only [Act.put, pa3_1, pa3_2, pa3_3, i64_w, i32_w]
                rfl
              refine pure_ (i := 39) (N := some 56) (v := ?_) (a' := ?_) m3_48 rfl rfl (any_of HT_.out (by kernel_rfl)) (fun _ _ _ h => h) (Or.inl ⟨by rfl, ?_⟩) ?_ ?_; rotate_left
              · intro w'
                go_simp; (with_reducible rfl)
              rotate_left
              · simp only [Act.put, pa3_1, pa3_2, pa3_3, i64_w, i32_w]
                rfl
              refine pure_ (i := 40) (N := some 57) (v := ?_) (a' := ?_) m3_49 rfl rfl (any_of HT_.out (by kernel_rfl)) (fun _ _ _ h => h) (Or.inl ⟨by rfl, ?_⟩) ?_ ?_; rotate_left
              · intro w'
                go_simp; (with_reducible rfl)
              rotate_left
              · simp only [Act.put, pa3_1, pa3_2, pa3_3, i64_w, i32_w]
                rfl
              refine pure_ (i := 41) (N := some 58) (v := ?_) (a' := ?_) m3_50 rfl rfl (any_of HT_.out (by kernel_rfl)) (fun _ _ _ h => h) (Or.inl ⟨by rfl, ?_⟩) ?_ ?_; rotate_left
              · intro w'
                go_simp; (with_reducible rfl)
              rotate_left
              · simp only [Act.put, pa3_1, pa3_2, pa3_3, i64_w, i32_w]
                rfl
              refine pure_ (i := 43) (N := some 60) (v := ?_) (a' := ?_) m3_51 rfl rfl (any_of HT_.out (by kernel_rfl)) (fun _ _ _ h => h) (Or.inl ⟨by rfl, ?_⟩) ?_ ?_; rotate_left
              · intro w'
                go_simp; (with_reducible rfl)
              rotate_left
              · simp only [Act.put, pa3_1, pa3_2, pa3_3, i64_w, i32_w]
                rfl
              refine pure_ (i := 44) (N := some 61) (v := ?_) (a' := ?_) m3_52 rfl rfl (any_of HT_.out (by kernel_rfl)) (fun _ _ _ h => h) (Or.inl ⟨by rfl, ?_⟩) ?_ ?_; rotate_left
              · intro w'
                go_simp; (with_reducible rfl)
              rotate_left
              · simp only [Act.put, pa3_1, pa3_2, pa3_3, i64_w, i32_w]
                rfl
              refine pure_ (i := 45) (N := some 62) (v := ?_) (a' := ?_) m3_53 rfl rfl (any_of HT_.out (by kernel_rfl)) (fun _ _ _ h => h) (Or.inl ⟨by rfl, ?_⟩) ?_ ?_; rotate_left
              · intro w'
                go_simp; (with_reducible rfl)
              rotate_left
              · simp only [Act.put, pa3_1, pa3_2, pa3_3, i64_w, i32_w]
                rfl
              refine pure_ (i := 46) (N := some 63) (v := ?_) (a' := ?_) m3_54 rfl rfl (any_of HT_.out (by kernel_rfl)) (fun _ _ _ h => h) (Or.inl ⟨by rfl, ?_⟩) ?_ ?_; rotate_left
              · intro w'
                go_simp; (with_reducible rfl)
              rotate_left
              · simp only [Act.put, pa3_1, pa3_2, pa3_3, i64_w, i32_w]
                rfl
              refine take_ (i := 42) (N := some 59) (v := ?_) (a' := ?_) m3_59 rfl rfl (take_ofW HT_.out HW_.out (by kernel_rfl)) (fun _ _ _ h => h) (Or.inl ⟨by rfl, ?_⟩) hHeld ?_ ?_; rotate_left
              · rintro w' ⟨s0, s1, s2, s3, s4, s5, s6, s7, s8, s9, s10, s11⟩
                go_simp; (with_reducible rfl)
              rotate_left
              · simp only [Act.put, pa3_1, pa3_2, pa3_3, i64_w, i32_w]
                rfl
              refine take_ (i := 47) (N := some 64) (v := ?_) (a' := ?_) m3_60 rfl rfl (take_ofW HT_.out HW_.out (by kernel_rfl)) (fun _ _ _ h => h) (Or.inl ⟨by rfl, ?_⟩) hHeld ?_ ?_; rotate_left
              · rintro w' ⟨s0, s1, s2, s3, s4, s5, s6, s7, s8, s9, s10, s11⟩
                go_simp; (with_reducible rfl)
              rotate_left
              · simp only [Act.put, pa3_1, pa3_2, pa3_3, i64_w, i32_w]
                rfl
              refine pure_ (i := 48) (N := some 65) (v := ?_) (a' := ?_) m3_61 rfl rfl (any_of HT_.out (by kernel_rfl)) (fun _ _ _ h => h) (Or.inl ⟨by rfl, ?_⟩) ?_ ?_; rotate_left
              · intro w'
                go_simp; (with_reducible rfl)
              rotate_left
              · simp only [Act.put, pa3_1, pa3_2, pa3_3, i64_w, i32_w]
                rfl
              refine pure_ (i := 49) (N := some 66) (v := ?_) (a' := ?_) m3_62 rfl rfl (any_of HT_.out (by kernel_rfl)) (fun _ _ _ h => h) (Or.inl ⟨by rfl, ?_⟩) ?_ ?_; rotate_left
              · intro w'
                go_simp; (with_reducible rfl)
              rotate_left
              · simp only [Act.put, pa3_1, pa3_2, pa3_3, i64_w, i32_w]
                rfl
              refine pure_ (i := 50) (N := some 67) (v := ?_) (a' := ?_) m3_63 rfl rfl (any_of HT_.out (by kernel_rfl)) (fun _ _ _ h => h) (Or.inl ⟨by rfl, ?_⟩) ?_ ?_; rotate_left
              · intro w'
                go_simp; (with_reducible rfl)
              rotate_left
              · simp only [Act.put, pa3_1, pa3_2, pa3_3, i64_w, i32_w]
                rfl
              refine pure_ (i := 51) (N := some 68) (v := ?_) (a' := ?_) m3_64 rfl rfl (any_of HT_.out (by kernel_rfl)) (fun _ _ _ h => h) (Or.inl ⟨by rfl, ?_⟩) ?_ ?_; rotate_left
              · intro w'
                go_simp; (with_reducible rfl)
              rotate_left
              · simp only [Act.put, pa3_1, pa3_2, pa3_3, i64_w, i32_w]
                rfl
              refine pure_ (i := 52) (N := some 69) (v := ?_) (a' := ?_) m3_65 rfl rfl (any_of HT_.out (by kernel_rfl)) (fun _ _ _ h => h) (Or.inl ⟨by rfl, ?_⟩) ?_ ?_; rotate_left
              · intro w'
                go_simp; (with_reducible rfl)
              rotate_left
              · simp only [Act.put, pa3_1, pa3_2, pa3_3, i64_w, i32_w]
                rfl
              refine pure_ (i := 53) (N := some 70) (v := ?_) (a' := ?_) m3_66 rfl rfl (any_of HT_.out (by kernel_rfl)) (fun _ _ _ h => h) (Or.inl ⟨by rfl, ?_⟩) ?_ ?_; rotate_left
              · intro w'
                go_simp; (with_reducible rfl)
              rotate_left
              · simp only [Act.put, pa3_1, pa3_2, pa3_3, i64_w, i32_w]
                rfl
              refine pure_ (i := 54) (N := some 71) (v := ?_) (a' := ?_) m3_67 rfl rfl (any_of HT_.out (by kernel_rfl)) (fun _ _ _ h => h) (Or.inl ⟨by rfl, ?_⟩) ?_ ?_; rotate_left
              · intro w'
                go_simp; (with_reducible rfl)
              rotate_left
              · simp only [Act.put, pa3_1, pa3_2, pa3_3, i64_w, i32_w]
                rfl
              refine pure_ (i := 56) (N := some 73) (v := ?_) (a' := ?_) m3_68 rfl rfl (any_of HT_.out (by kernel_rfl)) (fun _ _ _ h => h) (Or.inl ⟨by rfl, ?_⟩) ?_ ?_; rotate_left
              · intro w'
                go_simp; (with_reducible rfl)
              rotate_left
              · simp only [Act.put, pa3_1, pa3_2, pa3_3, i64_w, i32_w]
                rfl
              refine pure_ (i := 57) (N := some 74) (v := ?_) (a' := ?_) m3_69 rfl rfl (any_of HT_.out (by kernel_rfl)) (fun _ _ _ h => h) (Or.inl ⟨by rfl, ?_⟩) ?_ ?_; rotate_left
              · intro w'
                go_simp; (with_reducible rfl)
              rotate_left
              · simp only [Act.put, pa3_1, pa3_2, pa3_3, i64_w, i32_w]
                rfl
              refine pure_ (i := 58) (N := some 75) (v := ?_) (a' := ?_) m3_70 rfl rfl (any_of HT_.out (by kernel_rfl)) (fun _ _ _ h => h) (Or.inl ⟨by rfl, ?_⟩) ?_ ?_; rotate_left
              · intro w'
                go_simp; (with_reducible rfl)
              rotate_left
              · simp only [Act.put, pa3_1, pa3_2, pa3_3, i64_w, i32_w]
                rfl
              refine pure_ (i := 59) (N := some 76) (v := ?_) (a' := ?_) m3_71 rfl rfl (any_of HT_.out (by kernel_rfl)) (fun _ _ _ h => h) (Or.inl ⟨by rfl, ?_⟩) ?_ ?_; rotate_left
              · intro w'
                go_simp; (with_reducible rfl)
              rotate_left
              · simp only [Act.put, pa3_1, pa3_2, pa3_3, i64_w, i32_w]
                rfl
              refine take_ (i := 55) (N := some 72) (v := ?_) (a' := ?_) m3_76 rfl rfl (take_ofW HT_.out HW_.out (by kernel_rfl)) (fun _ _ _ h => h) (Or.inl ⟨by rfl, ?_⟩) hHeld ?_ ?_; rotate_left
              · rintro w' ⟨s0, s1, s2, s3, s4, s5, s6, s7, s8, s9, s10, s11⟩
                go_simp; (with_reducible rfl)
              rotate_left
              · simp only [Act.put, pa3_1, pa3_2, pa3_3, i64_w, i32_w]
                rfl
              refine take_ (i := 60) (N := some 77) (v := ?_) (a' := ?_) m3_77 rfl rfl (take_ofW HT_.out HW_.out (by kernel_rfl)) (fun _ _ _ h => h) (Or.inl ⟨by rfl, ?_⟩) hHeld ?_ ?_; rotate_left
              · rintro w' ⟨s0, s1, s2, s3, s4, s5, s6, s7, s8, s9, s10, s11⟩
                go_simp; (with_reducible rfl)
              rotate_left
              · simp only [Act.put, pa3_1, pa3_2, pa3_3, i64_w, i32_w]
                rfl
              refine pure_ (i := 61) (N := some 78) (v := ?_) (a' := ?_) m3_78 rfl rfl (any_of HT_.out (by kernel_rfl)) (fun _ _ _ h => h) (Or.inl ⟨by rfl, ?_⟩) ?_ ?_; rotate_left
              · intro w'
                go_simp; (with_reducible rfl)
              rotate_left
              · simp only [Act.put, pa3_1, pa3_2, pa3_3, i64_w, i32_w]
                rfl
              refine pure_ (i := 62) (N := some 79) (v := ?_) (a' := ?_) m3_79 rfl rfl (any_of HT_.out (by kernel_rfl)) (fun _ _ _ h => h) (Or.inl ⟨by rfl, ?_⟩) ?_ ?_; rotate_left
              · intro w'
                go_simp; (with_reducible rfl)
              rotate_left
              · simp only [Act.put, pa3_1, pa3_2, pa3_3, i64_w, i32_w]
                rfl
              refine pure_ (i := 63) (N := some 80) (v := ?_) (a' := ?_) m3_80 rfl rfl (any_of HT_.out (by kernel_rfl)) (fun _ _ _ h => h) (Or.inl ⟨by rfl, ?_⟩) ?_ ?_; rotate_left
              · intro w'
                go_simp; (with_reducible rfl)
              rotate_left
              · simp only [Act.put, pa3_1, pa3_2, pa3_3, i64_w, i32_w]
                rfl
              refine pure_ (i := 64) (N := some 81) (v := ?_) (a' := ?_) m3_81 rfl rfl (any_of HT_.out (by kernel_rfl)) (fun _ _ _ h => h) (Or.inl ⟨by rfl, ?_⟩) ?_ ?_; rotate_left
              · intro w'
                go_simp; (with_reducible rfl)
              rotate_left
              · simp only [Act.put, pa3_1, pa3_2, pa3_3, i64_w, i32_w]
                rfl
              refine pure_ (i := 65) (N := some 82) (v := ?_) (a' := ?_) m3_82 rfl rfl (any_of HT_.out (by kernel_rfl)) (fun _ _ _ h => h) (Or.inl ⟨by rfl, ?_⟩) ?_ ?_; rotate_left
              · intro w'
                go_simp; (with_reducible rfl)
              rotate_left
              · simp only [Act.put, pa3_1, pa3_2, pa3_3, i64_w, i32_w]
                rfl
              refine pure_ (i := 66) (N := some 83) (v := ?_) (a' := ?_) m3_83 rfl rfl (any_of HT_.out (by kernel_rfl)) (fun _ _ _ h => h) (Or.inl ⟨by rfl, ?_⟩) ?_ ?_; rotate_left
              · intro w'
                go_simp; (with_reducible rfl)
              rotate_left
              · simp only [Act.put, pa3_1, pa3_2, pa3_3, i64_w, i32_w]
                rfl
              refine pure_ (i := 67) (N := some 84) (v := ?_) (a' := ?_) m3_84 rfl rfl (any_of HT_.out (by kernel_rfl)) (fun _ _ _ h => h) (Or.inl ⟨by rfl, ?_⟩) ?_ ?_; rotate_left
              · intro w'
                go_simp; (with_reducible rfl)
              rotate_left
              · simp only [Act.put, pa3_1, pa3_2, pa3_3, i64_w, i32_w]
                rfl
              refine pure_ (i := 69) (N := some 86) (v := ?_) (a' := ?_) #[true, true, true, true, true, true, true, true, true, true, true, true, true, true, true, true, true, true, true, true, true, true, true, true, true, true, true, true, true, true, true, true, true, true, true, true, true, true, true, true, true, true, true, true, true, true, true, true, true, true, true, true, true, true, true, true, true, true, true, true, true, true, true, true, true, true, true, true, false, true, false, false, false, false, false, false, false] rfl rfl (any_of HT_.out (by kernel_rfl)) (fun _ _ _ h => h) (Or.inl ⟨by rfl, ?_⟩) ?_ ?_; rotate_left
              · intro w'
                go_simp; (with_reducible rfl)
              rotate_left
              · simp only [Act.put, pa3_1, pa3_2, pa3_3, i64_w, i32_w]
                rfl
              refine pure_ (i := 70) (N := some 87) (v := ?_) (a' := ?_) #[true, true, true, true, true, true, true, true, true, true, true, true, true, true, true, true, true, true, true, true, true, true, true, true, true, true, true, true, true, true, true, true, true, true, true, true, true, true, true, true, true, true, true, true, true, true, true, true, true, true, true, true, true, true, true, true, true, true, true, true, true, true, true, true, true, true, true, true, false, true, true, false, false, false, false, false, false] rfl rfl (any_of HT_.out (by kernel_rfl)) (fun _ _ _ h => h) (Or.inl ⟨by rfl, ?_⟩) ?_ ?_; rotate_left
              · intro w'
                go_simp; (with_reducible rfl)
              rotate_left
              · simp only [Act.put, pa3_1, pa3_2, pa3_3, i64_w, i32_w]
                rfl
              refine pure_ (i := 71) (N := some 88) (v := ?_) (a' := ?_) #[true, true, true, true, true, true, true, true, true, true, true, true, true, true, true, true, true, true, true, true, true, true, true, true, true, true, true, true, true, true, true, true, true, true, true, true, true, true, true, true, true, true, true, true, true, true, true, true, true, true, true, true, true, true, true, true, true, true, true, true, true, true, true, true, true, true, true, true, false, true, true, true, false, false, false, false, false] rfl rfl (any_of HT_.out (by kernel_rfl)) (fun _ _ _ h => h) (Or.inl ⟨by rfl, ?_⟩) ?_ ?_; rotate_left
              · intro w'
                go_simp; (with_reducible rfl)
              rotate_left
              · simp only [Act.put, pa3_1, pa3_2, pa3_3, i64_w, i32_w]
                rfl
              refine pure_ (i := 72) (N := some 89) (v := ?_) (a' := ?_) #[true, true, true, true, true, true, true, true, true, true, true, true, true, true, true, true, true, true, true, true, true, true, true, true, true, true, true, true, true, true, true, true, true, true, true, true, true, true, true, true, true, true, true, true, true, true, true, true, true, true, true, true, true, true, true, true, true, true, true, true, true, true, true, true, true, true, true, true, false, true, true, true, true, false, false, false, false] rfl rfl (any_of HT_.out (by kernel_rfl)) (fun _ _ _ h => h) (Or.inl ⟨by rfl, ?_⟩) ?_ ?_; rotate_left
              · intro w'
                go_simp; (with_reducible rfl)
              rotate_left
              · simp only [Act.put, pa3_1, pa3_2, pa3_3, i64_w, i32_w]
                rfl
              refine take_ (i := 68) (N := some 85) (v := ?_) (a' := ?_) m3_93 rfl rfl (take_ofW HT_.out HW_.out (by kernel_rfl)) (fun _ _ _ h => h) (Or.inl ⟨by rfl, ?_⟩) hHeld ?_ ?_; rotate_left
              · rintro w' ⟨s0, s1, s2, s3, s4, s5, s6, s7, s8, s9, s10, s11⟩
                go_simp; (with_reducible rfl)
              rotate_left
              · simp only [Act.put, pa3_1, pa3_2, pa3_3, i64_w, i32_w]
                rfl
              refine take_ (i := 73) (N := some 90) (v := ?_) (a' := ?_) m3_94 rfl rfl (take_ofW HT_.out HW_.out (by kernel_rfl)) (fun _ _ _ h => h) (Or.inl ⟨by rfl, ?_⟩) hHeld ?_ ?_; rotate_left
              · rintro w' ⟨s0, s1, s2, s3, s4, s5, s6, s7, s8, s9, s10, s11⟩
                go_simp; (with_reducible rfl)
              rotate_left
              · simp only [Act.put, pa3_1, pa3_2, pa3_3, i64_w, i32_w]
                rfl
              refine one_ (i := 74) (N := some 91) m3_95 rfl rfl (one_of HT_.out (by kernel_rfl)) (by decide) (fun K hK => ?_); refine goes_ Try.func10 (by kernel_rfl) rfl #[.slice A110_5 ((rd_T34 l0 x5_1).f5).length c110_5, .slice A111_5 ((rd_T34 l1 x5_1).f5).length c111_5] (by rfl) rfl rfl (by (try simp only [List.map_toArray, List.map_cons, List.map_nil]); first | done | rfl | (simp only [List.length_drop, List.length_take]; rfl)) ?_; (with_reducible refine (spec_SameData.calls k1 _ _ ((rd_T34 l0 x5_1).f5) _ _ ((rd_T34 l1 x5_1).f5) t122 _ ?side1 ?side2 ?side3 ?side4 A13.out).mono ?_)
              (case side1 => repeat (first | exact (Kd.C_below HR120_5.out HB.out) | (with_reducible refine Kd.C_alloc ?_ _) | (with_reducible refine Kd.C_drewN ?_ _) | (with_reducible refine Kd.C_drew ?_)))
              (case side2 => exact HC120_5.out)
              (case side3 => repeat (first | exact (Kd.C_below HR121_5.out HB.out) | (with_reducible refine Kd.C_alloc ?_ _) | (with_reducible refine Kd.C_drewN ?_ _) | (with_reducible refine Kd.C_drew ?_)))
              (case side4 => exact HC121_5.out)
              rintro e w' ⟨rfl, ⟨nd, rfl⟩⟩; refine ⟨_, rfl, ?_⟩; refine hK.out _ _ ⟨((HB.out.cell (World.block_lt_of_cell? w _ hw110_0)).trans hw110_0), ((HB.out.cell (World.block_lt_of_cell? w _ hw110_1)).trans hw110_1), ((HB.out.cell (World.block_lt_of_cell? w _ hw110_2)).trans hw110_2), ((HB.out.cell (World.block_lt_of_cell? w _ hw110_3)).trans hw110_3), ((HB.out.cell (World.block_lt_of_cell? w _ hw110_4)).trans hw110_4), ((HB.out.cell (World.block_lt_of_cell? w _ hw110_5)).trans hw110_5), ((HB.out.cell (World.block_lt_of_cell? w _ hw111_0)).trans hw111_0), ((HB.out.cell (World.block_lt_of_cell? w _ hw111_1)).trans hw111_1), ((HB.out.cell (World.block_lt_of_cell? w _ hw111_2)).trans hw111_2), ((HB.out.cell (World.block_lt_of_cell? w _ hw111_3)).trans hw111_3), ((HB.out.cell (World.block_lt_of_cell? w _ hw111_4)).trans hw111_4), ((HB.out.cell (World.block_lt_of_cell? w _ hw111_5)).trans hw111_5)⟩ (fun hHeld => ?_); clear hK K; refine norm_ (a' := ?_) ?_ ?_; rotate_left
              · show Act.put _ (some 91) _ = _
                simp only [Act.put, pa3_1, pa3_2, pa3_3, i64_w, i32_w]; rfl
              refine pure_ (i := 75) (N := some 92) (v := ?_) (a' := ?_) m3_96 rfl rfl (any_of HT_.out (by kernel_rfl)) (fun _ _ _ h => h) (Or.inl ⟨by rfl, ?_⟩) ?_ ?_; rotate_left
              · intro w'
                go_simp; (with_reducible rfl)
              rotate_left
              · simp only [Act.put, pa3_1, pa3_2, pa3_3, i64_w, i32_w]
                rfl
              refine pure_ (i := 76) (N := some 93) (v := ?_) (a' := ?_) m3_97 rfl rfl (any_of HT_.out (by kernel_rfl)) (fun _ _ _ h => h) (Or.inl ⟨by rfl, ?_⟩) ?_ ?_; rotate_left
              · intro w'
                go_simp; (with_reducible rfl)
              rotate_left
              · simp only [Act.put, pa3_1, pa3_2, pa3_3, i64_w, i32_w]
                rfl
              refine done_ (done_of HT_.out (by kernel_rfl)) ?_
              try go_wp2
              go_meet
              case rel => exact ⟨_, (!t122), d3_2, H', ⟨by have := HK1.out; first | omega | exact Nat.le_refl _⟩, ⟨c3_1⟩⟩
             ·rw [if_neg c12] at H
              have c12b0 : (((rd_T34 l0 x5_1).f4).toList == ((rd_T34 l1 x5_1).f4).toList) = false := beq_eq_false_iff_ne.mpr c12; have c12b1 : (((rd_T34 l0 x5_1).f4).toList != ((rd_T34 l1 x5_1).f4).toList) = true := bne_iff_ne.mpr c12; have H' := ak H; clear H
              try go_wp2
              have n0_ := ak (below_drew1 HB.out); clear HB; have HB := n0_; clear n0_; have p110 : 0 ≤ (x5_1 : Int) := of_decide_eq_true d3_1; have q110 : x5_1 < (l0.length : Int) := of_decide_eq_true d3_1; obtain ⟨ad110, A110_5, c110_5, e110, hx110_0, hx110_1, hx110_2, hx110_3, hx110_4, hx110_5, hl110_5, hi110_5⟩ := at_T34 HR0.out x5_1 p110 q110; have hw110_5 := hx110_5; have hw110_4 := hx110_4; have hw110_3 := hx110_3; have hw110_2 := hx110_2; have hw110_1 := hx110_1; have hw110_0 := hx110_0
              cases e110
              replace hx110_0 := (HB.out.cell (World.block_lt_of_cell? w _ hx110_0)).trans hx110_0; replace hx110_1 := (HB.out.cell (World.block_lt_of_cell? w _ hx110_1)).trans hx110_1; replace hx110_2 := (HB.out.cell (World.block_lt_of_cell? w _ hx110_2)).trans hx110_2; replace hx110_3 := (HB.out.cell (World.block_lt_of_cell? w _ hx110_3)).trans hx110_3; replace hx110_4 := (HB.out.cell (World.block_lt_of_cell? w _ hx110_4)).trans hx110_4; replace hx110_5 := (HB.out.cell (World.block_lt_of_cell? w _ hx110_5)).trans hx110_5; have HR110_5 := ak hi110_5; have HC110_5 := ak hl110_5; clear hi110_5 hl110_5; replace p110 := eq_true p110; replace q110 := eq_true q110; have p111 : 0 ≤ (x5_1 : Int) := of_decide_eq_true d3_1; have q111 : x5_1 < (l1.length : Int) := of_decide_eq_true d3_1; obtain ⟨ad111, A111_5, c111_5, e111, hx111_0, hx111_1, hx111_2, hx111_3, hx111_4, hx111_5, hl111_5, hi111_5⟩ := at_T34 HR1.out x5_1 p111 q111; have hw111_5 := hx111_5; have hw111_4 := hx111_4; have hw111_3 := hx111_3; have hw111_2 := hx111_2; have hw111_1 := hx111_1; have hw111_0 := hx111_0
              cases e111
              replace hx111_0 := (HB.out.cell (World.block_lt_of_cell? w _ hx111_0)).trans hx111_0; replace hx111_1 := (HB.out.cell (World.block_lt_of_cell? w _ hx111_1)).trans hx111_1; replace hx111_2 := (HB.out.cell (World.block_lt_of_cell? w _ hx111_2)).trans hx111_2; replace hx111_3 := (HB.out.cell (World.block_lt_of_cell? w _ hx111_3)).trans hx111_3; replace hx111_4 := (HB.out.cell (World.block_lt_of_cell? w _ hx111_4)).trans hx111_4; replace hx111_5 := (HB.out.cell (World.block_lt_of_cell? w _ hx111_5)).trans hx111_5; have HR111_5 := ak hi111_5; have HC111_5 := ak hl111_5; clear hi111_5 hl111_5; replace p111 := eq_true p111; replace q111 := eq_true q111; have p112 : 0 ≤ (x5_1 : Int) := of_decide_eq_true d3_1; have q112 : x5_1 < (l0.length : Int) := of_decide_eq_true d3_1; obtain ⟨ad112, A112_5, c112_5, e112, hx112_0, hx112_1, hx112_2, hx112_3, hx112_4, hx112_5, hl112_5, hi112_5⟩ := at_T34 HR0.out x5_1 p112 q112; have hw112_5 := hx112_5; have hw112_4 := hx112_4; have hw112_3 := hx112_3; have hw112_2 := hx112_2; have hw112_1 := hx112_1; have hw112_0 := hx112_0; obtain rfl : ad110 = ad112 := (by injection e112); replace hx112_0 := (HB.out.cell (World.block_lt_of_cell? w _ hx112_0)).trans hx112_0; replace hx112_1 := (HB.out.cell (World.block_lt_of_cell? w _ hx112_1)).trans hx112_1; replace hx112_2 := (HB.out.cell (World.block_lt_of_cell? w _ hx112_2)).trans hx112_2; replace hx112_3 := (HB.out.cell (World.block_lt_of_cell? w _ hx112_3)).trans hx112_3
              replace hx112_4 := (HB.out.cell (World.block_lt_of_cell? w _ hx112_4)).trans hx112_4; replace hx112_5 := (HB.out.cell (World.block_lt_of_cell? w _ hx112_5)).trans hx112_5; have HR112_5 := ak hi112_5; have HC112_5 := ak hl112_5; clear hi112_5 hl112_5; replace p112 := eq_true p112; replace q112 := eq_true q112; have ea_ := Option.some.inj (hx110_5.symm.trans hx112_5); injection ea_ with ea_ en_ ec_; subst ea_; subst ec_; clear en_; have p113 : 0 ≤ (x5_1 : Int) := of_decide_eq_true d3_1; have q113 : x5_1 < (l1.length : Int) := of_decide_eq_true d3_1; obtain ⟨ad113, A113_5, c113_5, e113, hx113_0, hx113_1, hx113_2, hx113_3, hx113_4, hx113_5, hl113_5, hi113_5⟩ := at_T34 HR1.out x5_1 p113 q113; have hw113_5 := hx113_5; have hw113_4 := hx113_4; have hw113_3 := hx113_3; have hw113_2 := hx113_2; have hw113_1 := hx113_1; have hw113_0 := hx113_0; obtain rfl : ad111 = ad113 := (by injection e113); replace hx113_0 := (HB.out.cell (World.block_lt_of_cell? w _ hx113_0)).trans hx113_0; replace hx113_1 := (HB.out.cell (World.block_lt_of_cell? w _ hx113_1)).trans hx113_1; replace hx113_2 := (HB.out.cell (World.block_lt_of_cell? w _ hx113_2)).trans hx113_2; replace hx113_3 := (HB.out.cell (World.block_lt_of_cell? w _ hx113_3)).trans hx113_3; replace hx113_4 := (HB.out.cell (World.block_lt_of_cell? w _ hx113_4)).trans hx113_4; replace hx113_5 := (HB.out.cell (World.block_lt_of_cell? w _ hx113_5)).trans hx113_5; have HR113_5 := ak hi113_5; have HC113_5 := ak hl113_5
              clear hi113_5 hl113_5; replace p113 := eq_true p113; replace q113 := eq_true q113; have ea_ := Option.some.inj (hx111_5.symm.trans hx113_5); injection ea_ with ea_ en_ ec_; subst ea_; subst ec_; clear en_; have p114 : 0 ≤ (x5_1 : Int) := of_decide_eq_true d3_1; have q114 : x5_1 < (l0.length : Int) := of_decide_eq_true d3_1; obtain ⟨ad114, A114_5, c114_5, e114, hx114_0, hx114_1, hx114_2, hx114_3, hx114_4, hx114_5, hl114_5, hi114_5⟩ := at_T34 HR0.out x5_1 p114 q114; have hw114_5 := hx114_5; have hw114_4 := hx114_4; have hw114_3 := hx114_3; have hw114_2 := hx114_2; have hw114_1 := hx114_1; have hw114_0 := hx114_0; obtain rfl : ad110 = ad114 := (by injection e114); replace hx114_0 := (HB.out.cell (World.block_lt_of_cell? w _ hx114_0)).trans hx114_0; replace hx114_1 := (HB.out.cell (World.block_lt_of_cell? w _ hx114_1)).trans hx114_1; replace hx114_2 := (HB.out.cell (World.block_lt_of_cell? w _ hx114_2)).trans hx114_2; replace hx114_3 := (HB.out.cell (World.block_lt_of_cell? w _ hx114_3)).trans hx114_3; replace hx114_4 := (HB.out.cell (World.block_lt_of_cell? w _ hx114_4)).trans hx114_4; replace hx114_5 := (HB.out.cell (World.block_lt_of_cell? w _ hx114_5)).trans hx114_5; have HR114_5 := ak hi114_5; have HC114_5 := ak hl114_5; clear hi114_5 hl114_5; replace p114 := eq_true p114; replace q114 := eq_true q114; have ea_ := Option.some.inj (hx110_5.symm.trans hx114_5); injection ea_ with ea_ en_ ec_; subst ea_; subst ec_; clear en_
              have p115 : 0 ≤ (x5_1 : Int) := of_decide_eq_true d3_1; have q115 : x5_1 < (l1.length : Int) := of_decide_eq_true d3_1; obtain ⟨ad115, A115_5, c115_5, e115, hx115_0, hx115_1, hx115_2, hx115_3, hx115_4, hx115_5, hl115_5, hi115_5⟩ := at_T34 HR1.out x5_1 p115 q115; have hw115_5 := hx115_5; have hw115_4 := hx115_4; have hw115_3 := hx115_3; have hw115_2 := hx115_2; have hw115_1 := hx115_1; have hw115_0 := hx115_0; obtain rfl : ad111 = ad115 := (by injection e115); replace hx115_0 := (HB.out.cell (World.block_lt_of_cell? w _ hx115_0)).trans hx115_0; replace hx115_1 := (HB.out.cell (World.block_lt_of_cell? w _ hx115_1)).trans hx115_1; replace hx115_2 := (HB.out.cell (World.block_lt_of_cell? w _ hx115_2)).trans hx115_2; replace hx115_3 := (HB.out.cell (World.block_lt_of_cell? w _ hx115_3)).trans hx115_3; replace hx115_4 := (HB.out.cell (World.block_lt_of_cell? w _ hx115_4)).trans hx115_4; replace hx115_5 := (HB.out.cell (World.block_lt_of_cell? w _ hx115_5)).trans hx115_5; have HR115_5 := ak hi115_5; have HC115_5 := ak hl115_5; clear hi115_5 hl115_5; replace p115 := eq_true p115; replace q115 := eq_true q115; have ea_ := Option.some.inj (hx111_5.symm.trans hx115_5); injection ea_ with ea_ en_ ec_; subst ea_; subst ec_; clear en_; have p116 : 0 ≤ (x5_1 : Int) := of_decide_eq_true d3_1; have q116 : x5_1 < (l0.length : Int) := of_decide_eq_true d3_1
              obtain ⟨ad116, A116_5, c116_5, e116, hx116_0, hx116_1, hx116_2, hx116_3, hx116_4, hx116_5, hl116_5, hi116_5⟩ := at_T34 HR0.out x5_1 p116 q116; have hw116_5 := hx116_5; have hw116_4 := hx116_4; have hw116_3 := hx116_3; have hw116_2 := hx116_2; have hw116_1 := hx116_1; have hw116_0 := hx116_0; obtain rfl : ad110 = ad116 := (by injection e116); replace hx116_0 := (HB.out.cell (World.block_lt_of_cell? w _ hx116_0)).trans hx116_0; replace hx116_1 := (HB.out.cell (World.block_lt_of_cell? w _ hx116_1)).trans hx116_1; replace hx116_2 := (HB.out.cell (World.block_lt_of_cell? w _ hx116_2)).trans hx116_2; replace hx116_3 := (HB.out.cell (World.block_lt_of_cell? w _ hx116_3)).trans hx116_3; replace hx116_4 := (HB.out.cell (World.block_lt_of_cell? w _ hx116_4)).trans hx116_4; replace hx116_5 := (HB.out.cell (World.block_lt_of_cell? w _ hx116_5)).trans hx116_5; have HR116_5 := ak hi116_5; have HC116_5 := ak hl116_5; clear hi116_5 hl116_5; replace p116 := eq_true p116; replace q116 := eq_true q116; have ea_ := Option.some.inj (hx110_5.symm.trans hx116_5); injection ea_ with ea_ en_ ec_; subst ea_; subst ec_; clear en_; have p117 : 0 ≤ (x5_1 : Int) := of_decide_eq_true d3_1; have q117 : x5_1 < (l1.length : Int) := of_decide_eq_true d3_1; obtain ⟨ad117, A117_5, c117_5, e117, hx117_0, hx117_1, hx117_2, hx117_3, hx117_4, hx117_5, hl117_5, hi117_5⟩ := at_T34 HR1.out x5_1 p117 q117; have hw117_5 := hx117_5; have hw117_4 := hx117_4; have hw117_3 := hx117_3
              have hw117_2 := hx117_2; have hw117_1 := hx117_1; have hw117_0 := hx117_0; obtain rfl : ad111 = ad117 := (by injection e117); replace hx117_0 := (HB.out.cell (World.block_lt_of_cell? w _ hx117_0)).trans hx117_0; replace hx117_1 := (HB.out.cell (World.block_lt_of_cell? w _ hx117_1)).trans hx117_1; replace hx117_2 := (HB.out.cell (World.block_lt_of_cell? w _ hx117_2)).trans hx117_2; replace hx117_3 := (HB.out.cell (World.block_lt_of_cell? w _ hx117_3)).trans hx117_3; replace hx117_4 := (HB.out.cell (World.block_lt_of_cell? w _ hx117_4)).trans hx117_4; replace hx117_5 := (HB.out.cell (World.block_lt_of_cell? w _ hx117_5)).trans hx117_5; have HR117_5 := ak hi117_5; have HC117_5 := ak hl117_5; clear hi117_5 hl117_5; replace p117 := eq_true p117; replace q117 := eq_true q117; have ea_ := Option.some.inj (hx111_5.symm.trans hx117_5); injection ea_ with ea_ en_ ec_; subst ea_; subst ec_; clear en_; have p118 : 0 ≤ (x5_1 : Int) := of_decide_eq_true d3_1; have q118 : x5_1 < (l0.length : Int) := of_decide_eq_true d3_1; obtain ⟨ad118, A118_5, c118_5, e118, hx118_0, hx118_1, hx118_2, hx118_3, hx118_4, hx118_5, hl118_5, hi118_5⟩ := at_T34 HR0.out x5_1 p118 q118; have hw118_5 := hx118_5; have hw118_4 := hx118_4; have hw118_3 := hx118_3; have hw118_2 := hx118_2; have hw118_1 := hx118_1; have hw118_0 := hx118_0; obtain rfl : ad110 = ad118 := (by injection e118); replace hx118_0 := (HB.out.cell (World.block_lt_of_cell? w _ hx118_0)).trans hx118_0
              replace hx118_1 := (HB.out.cell (World.block_lt_of_cell? w _ hx118_1)).trans hx118_1; replace hx118_2 := (HB.out.cell (World.block_lt_of_cell? w _ hx118_2)).trans hx118_2; replace hx118_3 := (HB.out.cell (World.block_lt_of_cell? w _ hx118_3)).trans hx118_3; replace hx118_4 := (HB.out.cell (World.block_lt_of_cell? w _ hx118_4)).trans hx118_4; replace hx118_5 := (HB.out.cell (World.block_lt_of_cell? w _ hx118_5)).trans hx118_5; have HR118_5 := ak hi118_5; have HC118_5 := ak hl118_5; clear hi118_5 hl118_5; replace p118 := eq_true p118; replace q118 := eq_true q118; have ea_ := Option.some.inj (hx110_5.symm.trans hx118_5); injection ea_ with ea_ en_ ec_; subst ea_; subst ec_; clear en_; have p119 : 0 ≤ (x5_1 : Int) := of_decide_eq_true d3_1; have q119 : x5_1 < (l1.length : Int) := of_decide_eq_true d3_1; obtain ⟨ad119, A119_5, c119_5, e119, hx119_0, hx119_1, hx119_2, hx119_3, hx119_4, hx119_5, hl119_5, hi119_5⟩ := at_T34 HR1.out x5_1 p119 q119; have hw119_5 := hx119_5; have hw119_4 := hx119_4; have hw119_3 := hx119_3; have hw119_2 := hx119_2; have hw119_1 := hx119_1; have hw119_0 := hx119_0; obtain rfl : ad111 = ad119 := (by injection e119); replace hx119_0 := (HB.out.cell (World.block_lt_of_cell? w _ hx119_0)).trans hx119_0; replace hx119_1 := (HB.out.cell (World.block_lt_of_cell? w _ hx119_1)).trans hx119_1; replace hx119_2 := (HB.out.cell (World.block_lt_of_cell? w _ hx119_2)).trans hx119_2
              replace hx119_3 := (HB.out.cell (World.block_lt_of_cell? w _ hx119_3)).trans hx119_3; replace hx119_4 := (HB.out.cell (World.block_lt_of_cell? w _ hx119_4)).trans hx119_4; replace hx119_5 := (HB.out.cell (World.block_lt_of_cell? w _ hx119_5)).trans hx119_5; have HR119_5 := ak hi119_5; have HC119_5 := ak hl119_5; clear hi119_5 hl119_5; replace p119 := eq_true p119; replace q119 := eq_true q119; have ea_ := Option.some.inj (hx111_5.symm.trans hx119_5); injection ea_ with ea_ en_ ec_; subst ea_; subst ec_; clear en_; clear hx117_5 hx118_0 hx118_1 hx118_2 hx118_3 hx118_4 hx118_5 hx119_0 hx119_1 hx119_2 hx119_3 hx119_4 hx119_5
              refine start_ (n := 77) (S := fun w' => w'.cell? (ad110.add ((x5_1).toNat * 6)) = some (.int .i64 ((rd_T34 l0 x5_1).f0)) ∧ w'.cell? ⟨(ad110.add ((x5_1).toNat * 6)).block, (ad110.add ((x5_1).toNat * 6)).off + 1, none⟩ = some (.int .i64 ((rd_T34 l0 x5_1).f1)) ∧ w'.cell? ⟨(ad110.add ((x5_1).toNat * 6)).block, (ad110.add ((x5_1).toNat * 6)).off + 2, none⟩ = some (.int .i64 ((rd_T34 l0 x5_1).f2)) ∧ w'.cell? ⟨(ad110.add ((x5_1).toNat * 6)).block, (ad110.add ((x5_1).toNat * 6)).off + 3, none⟩ = some (.int .i64 ((rd_T34 l0 x5_1).f3)) ∧ w'.cell? ⟨(ad110.add ((x5_1).toNat * 6)).block, (ad110.add ((x5_1).toNat * 6)).off + 4, none⟩ = some (.string ((rd_T34 l0 x5_1).f4)) ∧ w'.cell? ⟨(ad110.add ((x5_1).toNat * 6)).block, (ad110.add ((x5_1).toNat * 6)).off + 5, none⟩ = some (.slice A110_5 ((rd_T34 l0 x5_1).f5).length c110_5) ∧ w'.cell? (ad111.add ((x5_1).toNat * 6)) = some (.int .i64 ((rd_T34 l1 x5_1).f0)) ∧ w'.cell? ⟨(ad111.add ((x5_1).toNat * 6)).block, (ad111.add ((x5_1).toNat * 6)).off + 1, none⟩ = some (.int .i64 ((rd_T34 l1 x5_1).f1)) ∧ w'.cell? ⟨(ad111.add ((x5_1).toNat * 6)).block, (ad111.add ((x5_1).toNat * 6)).off + 2, none⟩ = some (.int .i64 ((rd_T34 l1 x5_1).f2)) ∧ w'.cell? ⟨(ad111.add ((x5_1).toNat * 6)).block, (ad111.add ((x5_1).toNat * 6)).off + 3, none⟩ = some (.int .i64 ((rd_T34 l1 x5_1).f3)) ∧ w'.cell? ⟨(ad111.add ((x5_1).toNat * 6)).block, (ad111.add ((x5_1).toNat * 6)).off + 4, none⟩ = some (.string ((rd_T34 l1 x5_1).f4)) ∧ w'.cell? ⟨(ad111.add ((x5_1).toNat * 6)).block, (ad111.add ((x5_1).toNat * 6)).off + 5, none⟩ = some (.slice A111_5 ((rd_T34 l1 x5_1).f5).length c111_5)) (ds := []) m3_0 (by kernel_rfl) rfl rfl ⟨((HB.out.cell (World.block_lt_of_cell? w _ hw110_0)).trans hw110_0), ((HB.out.cell (World.block_lt_of_cell? w _ hw110_1)).trans hw110_1), ((HB.out.cell (World.block_lt_of_cell? w _ hw110_2)).trans hw110_2), ((HB.out.cell (World.block_lt_of_cell? w _ hw110_3)).trans hw110_3), ((HB.out.cell (World.block_lt_of_cell? w _ hw110_4)).trans hw110_4), ((HB.out.cell (World.block_lt_of_cell? w _ hw110_5)).trans hw110_5), ((HB.out.cell (World.block_lt_of_cell? w _ hw111_0)).trans hw111_0), ((HB.out.cell (World.block_lt_of_cell? w _ hw111_1)).trans hw111_1), ((HB.out.cell (World.block_lt_of_cell? w _ hw111_2)).trans hw111_2), ((HB.out.cell (World.block_lt_of_cell? w _ hw111_3)).trans hw111_3), ((HB.out.cell (World.block_lt_of_cell? w _ hw111_4)).trans hw111_4), ((HB.out.cell (World.block_lt_of_cell? w _ hw111_5)).trans hw111_5)⟩ (fun hHeld => ?_); refine with_tabW spec_SameCores.tab6 spec_SameCores.bits6 (fun HT_ HW_ => ?_)
              generalize wr.drew = w15 at HB HR110_5 HR111_5 HR112_5 HR113_5 HR114_5 HR115_5 HR116_5 HR117_5 HR118_5 HR119_5 hx110_0 hx110_1 hx110_2 hx110_3 hx110_4 hx110_5 hx111_0 hx111_1 hx111_2 hx111_3 hx111_4 hx111_5 hx112_0 hx112_1 hx112_2 hx112_3 hx112_4 hx112_5 hx113_0 hx113_1 hx113_2 hx113_3 hx113_4 hx113_5 hx114_0 hx114_1 hx114_2 hx114_3 hx114_4 hx114_5 hx115_0 hx115_1 hx115_2 hx115_3 hx115_4 hx115_5 hx116_0 hx116_1 hx116_2 hx116_3 hx116_4 hx116_5 hx117_0 hx117_1 hx117_2 hx117_3 hx117_4 hHeld ⊢; refine pure_ (i := 0) (N := some 17) (v := ?_) (a' := ?_) m3_1 rfl rfl (any_of HT_.out (by kernel_rfl)) (fun _ _ _ h => h) (Or.inl ⟨by rfl, ?_⟩) ?_ ?_; rotate_left
              · intro w'
                go_simp; (with_reducible rfl)
              rotate_left
              · simp only [Act.put, pa3_1, pa3_2, pa3_3, i64_w, i32_w]
                rfl
              refine pure_ (i := 1) (N := some 18) (v := ?_) (a' := ?_) m3_2 rfl rfl (any_of HT_.out (by kernel_rfl)) (fun _ _ _ h => h) (Or.inl ⟨by rfl, ?_⟩) ?_ ?_; rotate_left
              · intro w'
                go_simp; (with_reducible rfl)
              rotate_left
              · simp only [Act.put, pa3_1, pa3_2, pa3_3, i64_w, i32_w]
                rfl
              refine pure_ (i := 2) (N := some 19) (v := ?_) (a' := ?_) m3_3 rfl rfl (any_of HT_.out (by kernel_rfl)) (fun _ _ _ h => h) (Or.inl ⟨by rfl, ?_⟩) ?_ ?_; rotate_left
              · intro w'
                go_simp; (with_reducible rfl)
              rotate_left
              · simp only [Act.put, pa3_1, pa3_2, pa3_3, i64_w, i32_w]
                rfl
              refine pure_ (i := 3) (N := some 20) (v := ?_) (a' := ?_) m3_4 rfl rfl (any_of HT_.out (by kernel_rfl)) (fun _ _ _ h => h) (Or.inl ⟨by rfl, ?_⟩) ?_ ?_; rotate_left
              · intro w'
                go_simp; (with_reducible rfl)
              rotate_left
              · simp only [Act.put, pa3_1, pa3_2, pa3_3, i64_w, i32_w]
                rfl
              refine pure_ (i := 5) (N := some 22) (v := ?_) (a' := ?_) m3_5 rfl rfl (any_of HT_.out (by kernel_rfl)) (fun _ _ _ h => h) (Or.inl ⟨by rfl, ?_⟩) ?_ ?_; rotate_left
              · intro w'
                go_simp; (with_reducible rfl)
              rotate_left
              · simp only [Act.put, pa3_1, pa3_2, pa3_3, i64_w, i32_w]
                rfl
              refine pure_ (i := 6) (N := some 23) (v := ?_) (a' := ?_) m3_6 rfl rfl (any_of HT_.out (by kernel_rfl)) (fun _ _ _ h => h) (Or.inl ⟨by rfl, ?_⟩) ?_ ?_; rotate_left
              · intro w'
                go_simp; (with_reducible rfl)
              rotate_left
              · simp only [Act.put, pa3_1, pa3_2, pa3_3, i64_w, i32_w]
                rfl
              refine pure_ (i := 7) (N := some 24) (v := ?_) (a' := ?_) m3_7 rfl rfl (any_of HT_.out (by kernel_rfl)) (fun _ _ _ h => h) (Or.inl ⟨by rfl, ?_⟩) ?_ ?_; rotate_left
              · intro w'
                go_simp; (with_reducible rfl)
              rotate_left
              · simp only [Act.put, pa3_1, pa3_2, pa3_3, i64_w, i32_w]
                rfl
              refine pure_ (i := 8) (N := some 25) (v := ?_) (a' := ?_) m3_8 rfl rfl (any_of HT_.out (by kernel_rfl)) (fun _ _ _ h => h) (Or.inl ⟨by rfl, ?_⟩) ?_ ?_; rotate_left
              · intro w'
                go_simp; (with_reducible rfl)
              rotate_left
              · simp only [Act.put, pa3_1, pa3_2, pa3_3, i64_w, i32_w]
                rfl
              refine take_ (i := 4) (N := some 21) (v := ?_) (a' := ?_) m3_9 rfl rfl (take_ofW HT_.out HW_.out (by kernel_rfl)) (fun _ _ _ h => h) (Or.inl ⟨by rfl, ?_⟩) hHeld ?_ ?_; rotate_left
              · rintro w' ⟨s0, s1, s2, s3, s4, s5, s6, s7, s8, s9, s10, s11⟩
                go_simp; (with_reducible rfl)
              rotate_left
              · simp only [Act.put, pa3_1, pa3_2, pa3_3, i64_w, i32_w]
                rfl
              refine take_ (i := 9) (N := some 26) (v := ?_) (a' := ?_) m3_10 rfl rfl (take_ofW HT_.out HW_.out (by kernel_rfl)) (fun _ _ _ h => h) (Or.inl ⟨by rfl, ?_⟩) hHeld ?_ ?_; rotate_left
              · rintro w' ⟨s0, s1, s2, s3, s4, s5, s6, s7, s8, s9, s10, s11⟩
                go_simp; (with_reducible rfl)
              rotate_left
              · simp only [Act.put, pa3_1, pa3_2, pa3_3, i64_w, i32_w]
                rfl
              refine pure_ (i := 10) (N := some 27) (v := ?_) (a' := ?_) m3_11 rfl rfl (any_of HT_.out (by kernel_rfl)) (fun _ _ _ h => h) (Or.inl ⟨by rfl, ?_⟩) ?_ ?_; rotate_left
              · intro w'
                go_simp; (with_reducible rfl)
              rotate_left
              · simp only [Act.put, pa3_1, pa3_2, pa3_3, i64_w, i32_w]
                rfl
              refine pure_ (i := 11) (N := some 28) (v := ?_) (a' := ?_) m3_12 rfl rfl (any_of HT_.out (by kernel_rfl)) (fun _ _ _ h => h) (Or.inl ⟨by rfl, ?_⟩) ?_ ?_; rotate_left
              · intro w'
                go_simp; (with_reducible rfl)
              rotate_left
              · simp only [Act.put, pa3_1, pa3_2, pa3_3, i64_w, i32_w]
                rfl
              refine pure_ (i := 12) (N := some 29) (v := ?_) (a' := ?_) m3_13 rfl rfl (any_of HT_.out (by kernel_rfl)) (fun _ _ _ h => h) (Or.inl ⟨by rfl, ?_⟩) ?_ ?_; rotate_left
              · intro w'
                go_simp; (with_reducible rfl)
              rotate_left
              · simp only [Act.put, pa3_1, pa3_2, pa3_3, i64_w, i32_w]
                rfl
              refine pure_ (i := 13) (N := some 30) (v := ?_) (a' := ?_) m3_14 rfl rfl (any_of HT_.out (by kernel_rfl)) (fun _ _ _ h => h) (Or.inl ⟨by rfl, ?_⟩) ?_ ?_; rotate_left
              · intro w'
                go_simp; (with_reducible rfl)
              rotate_left
              · simp only [Act.put, pa3_1, pa3_2, pa3_3, i64_w, i32_w]
                rfl
              refine pure_ (i := 14) (N := some 31) (v := ?_) (a' := ?_) m3_15 rfl rfl (any_of HT_.out (by kernel_rfl)) (fun _ _ _ h => h) (Or.inl ⟨by rfl, ?_⟩) ?_ ?_; rotate_left
              · intro w'
                go_simp; (with_reducible rfl)
              rotate_left
              · simp only [Act.put, pa3_1, pa3_2, pa3_3, i64_w, i32_w]
                rfl
              refine pure_ (i := 15) (N := some 32) (v := ?_) (a' := ?_) m3_16 rfl rfl (any_of HT_.out (by kernel_rfl)) (fun _ _ _ h => h) (Or.inl ⟨by rfl, ?_⟩) ?_ ?_; rotate_left
              · intro w'
                go_simp; (with_reducible rfl)
              rotate_left
              · simp only [Act.put, pa3_1, pa3_2, pa3_3, i64_w, i32_w]
                rfl
              refine pure_ (i := 17) (N := some 34) (v := ?_) (a' := ?_) m3_17 rfl rfl (any_of HT_.out (by kernel_rfl)) (fun _ _ _ h => h) (Or.inl ⟨by rfl, ?_⟩) ?_ ?_; rotate_left
              · intro w'
                go_simp; (with_reducible rfl)
              rotate_left
              · simp only [Act.put, pa3_1, pa3_2, pa3_3, i64_w, i32_w]
                rfl
              refine pure_ (i := 18) (N := some 35) (v := ?_) (a' := ?_) m3_18 rfl rfl (any_of HT_.out (by kernel_rfl)) (fun _ _ _ h => h) (Or.inl ⟨by rfl, ?_⟩) ?_ ?_; rotate_left
              · intro w'
                go_simp; (with_reducible rfl)
              rotate_left
              · simp only [Act.put, pa3_1, pa3_2, pa3_3, i64_w, i32_w]
                rfl
              refine pure_ (i := 19) (N := some 36) (v := ?_) (a' := ?_) m3_19 rfl rfl (any_of HT_.out (by kernel_rfl)) (fun _ _ _ h => h) (Or.inl ⟨by rfl, ?_⟩) ?_ ?_; rotate_left
              · intro w'
                go_simp; (with_reducible rfl)
              rotate_left
              · simp only [Act.put, pa3_1, pa3_2, pa3_3, i64_w, i32_w]
                rfl
              refine pure_ (i := 20) (N := some 37) (v := ?_) (a' := ?_) m3_20 rfl rfl (any_of HT_.out (by kernel_rfl)) (fun _ _ _ h => h) (Or.inl ⟨by rfl, ?_⟩) ?_ ?_; rotate_left
              · intro w'
                go_simp; (with_reducible rfl)
              rotate_left
              · simp only [Act.put, pa3_1, pa3_2, pa3_3, i64_w, i32_w]
                rfl
              refine take_ (i := 16) (N := some 33) (v := ?_) (a' := ?_) m3_25 rfl rfl (take_ofW HT_.out HW_.out (by kernel_rfl)) (fun _ _ _ h => h) (Or.inl ⟨by rfl, ?_⟩) hHeld ?_ ?_; rotate_left
              · rintro w' ⟨s0, s1, s2, s3, s4, s5, s6, s7, s8, s9, s10, s11⟩
                go_simp; (with_reducible rfl)
              rotate_left
              · simp only [Act.put, pa3_1, pa3_2, pa3_3, i64_w, i32_w]
                rfl
              refine take_ (i := 21) (N := some 38) (v := ?_) (a' := ?_) m3_26 rfl rfl (take_ofW HT_.out HW_.out (by kernel_rfl)) (fun _ _ _ h => h) (Or.inl ⟨by rfl, ?_⟩) hHeld ?_ ?_; rotate_left
              · rintro w' ⟨s0, s1, s2, s3, s4, s5, s6, s7, s8, s9, s10, s11⟩
                go_simp; (with_reducible rfl)
              rotate_left
              · simp only [Act.put, pa3_1, pa3_2, pa3_3, i64_w, i32_w]
                rfl
              refine pure_ (i := 22) (N := some 39) (v := ?_) (a' := ?_) m3_27 rfl rfl (any_of HT_.out (by kernel_rfl)) (fun _ _ _ h => h) (Or.inl ⟨by rfl, ?_⟩) ?_ ?_; rotate_left
              · intro w'
                go_simp; (with_reducible rfl)
              rotate_left
              · simp only [Act.put, pa3_1, pa3_2, pa3_3, i64_w, i32_w]
                rfl
              refine pure_ (i := 23) (N := some 40) (v := ?_) (a' := ?_) m3_28 rfl rfl (any_of HT_.out (by kernel_rfl)) (fun _ _ _ h => h) (Or.inl ⟨by rfl, ?_⟩) ?_ ?_; rotate_left
              · intro w'
                go_simp; (with_reducible rfl)
              rotate_left
              · simp only [Act.put, pa3_1, pa3_2, pa3_3, i64_w, i32_w]
                rfl
              refine pure_ (i := 24) (N := some 41) (v := ?_) (a' := ?_) m3_29 rfl rfl (any_of HT_.out (by kernel_rfl)) (fun _ _ _ h => h) (Or.inl ⟨by rfl, ?_⟩) ?_ ?_; rotate_left
              · intro w'
                go_simp; (with_reducible rfl)
              rotate_left
              · simp only [Act.put, pa3_1, pa3_2, pa3_3, i64_w, i32_w]
                rfl
              refine pure_ (i := 25) (N := some 42) (v := ?_) (a' := ?_) m3_30 rfl rfl (any_of HT_.out (by kernel_rfl)) (fun _ _ _ h => h) (Or.inl ⟨by rfl, ?_⟩) ?_ ?_; rotate_left
              · intro w'
                go_simp; (with_reducible rfl)
              rotate_left
              · simp only [Act.put, pa3_1, pa3_2, pa3_3, i64_w, i32_w]
                rfl
              refine pure_ (i := 26) (N := some 43) (v := ?_) (a' := ?_) m3_31 rfl rfl (any_of HT_.out (by kernel_rfl)) (fun _ _ _ h => h) (Or.inl ⟨by rfl, ?_⟩) ?_ ?_; rotate_left
              · intro w'
                go_simp; (with_reducible rfl)
              rotate_left
              · simp only [Act.put, pa3_1, pa3_2, pa3_3, i64_w, i32_w]
                rfl
              refine pure_ (i := 27) (N := some 44) (v := ?_) (a' := ?_) m3_32 rfl rfl (any_of HT_.out (by kernel_rfl)) (fun _ _ _ h => h) (Or.inl ⟨by rfl, ?_⟩) ?_ ?_; rotate_left
              · intro w'
                go_simp; (with_reducible rfl)
              rotate_left
              · simp only [Act.put, pa3_1, pa3_2, pa3_3, i64_w, i32_w]
                rfl
              refine pure_ (i := 28) (N := some 45) (v := ?_) (a' := ?_) m3_33 rfl rfl (any_of HT_.out (by kernel_rfl)) (fun _ _ _ h => h) (Or.inl ⟨by rfl, ?_⟩) ?_ ?_; rotate_left
              · intro w'
                go_simp; (with_reducible rfl)
              rotate_left
              · simp only [Act.put, pa3_1, pa3_2, pa3_3, i64_w, i32_w]
                rfl
              refine pure_ (i := 30) (N := some 47) (v := ?_) (a' := ?_) m3_34 rfl rfl (any_of HT_.out (by kernel_rfl)) (fun _ _ _ h => h) (Or.inl ⟨by rfl, ?_⟩) ?_ ?_; rotate_left
              · intro w'
                go_simp; (with_reducible rfl)
              rotate_left
              · simp only [Act.put, pa3_1, pa3_2, pa3_3, i64_w, i32_w]
                rfl
              refine pure_ (i := 31) (N := some 48) (v := ?_) (a' := ?_) m3_35 rfl rfl (any_of HT_.out (by kernel_rfl)) (fun _ _ _ h => h) (Or.inl ⟨by rfl, ?_⟩) ?_ ?_; rotate_left
              · intro w'
                go_simp; (with_reducible rfl)
              rotate_left
              · simp only [Act.put, pa3_1, pa3_2, pa3_3, i64_w, i32_w]
                rfl
              refine pure_ (i := 32) (N := some 49) (v := ?_) (a' := ?_) m3_36 rfl rfl (any_of HT_.out (by kernel_rfl)) (fun _ _ _ h => h) (Or.inl ⟨by rfl, ?_⟩) ?_ ?_; rotate_left
              · intro w'
                go_simp; (with_reducible rfl)
              rotate_left
              · simp only [Act.put, pa3_1, pa3_2, pa3_3, i64_w, i32_w]
                rfl
              refine pure_ (i := 33) (N := some 50) (v := ?_) (a' := ?_) m3_37 rfl rfl (any_of HT_.out (by kernel_rfl)) (fun _ _ _ h => h) (Or.inl ⟨by rfl, ?_⟩) ?_ ?_; rotate_left
              · intro w'
                go_simp; (with_reducible rfl)
              rotate_left
              · simp only [Act.put, pa3_1, pa3_2, pa3_3, i64_w, i32_w]
                rfl
              refine take_ (i := 29) (N := some 46) (v := ?_) (a' := ?_) m3_42 rfl rfl (take_ofW HT_.out HW_.out (by kernel_rfl)) (fun _ _ _ h => h) (Or.inl ⟨by rfl, ?_⟩) hHeld ?_ ?_; rotate_left
              · rintro w' ⟨s0, s1, s2, s3, s4, s5, s6, s7, s8, s9, s10, s11⟩
                go_simp; (with_reducible rfl)
              rotate_left
              · simp only [Act.put, pa3_1, pa3_2, pa3_3, i64_w, i32_w]
                rfl
              refine take_ (i := 34) (N := some 51) (v := ?_) (a' := ?_) m3_43 rfl rfl (take_ofW HT_.out HW_.out (by kernel_rfl)) (fun _ _ _ h => h) (Or.inl ⟨by rfl, ?_⟩) hHeld ?_ ?_; rotate_left
              · rintro w' ⟨s0, s1, s2, s3, s4, s5, s6, s7, s8, s9, s10, s11⟩
                go_simp; (with_reducible rfl)
              rotate_left
              · simp only [Act.put, pa3_1, pa3_2, pa3_3, i64_w, i32_w]
                rfl
              refine pure_ (i := 35) (N := some 52) (v := ?_) (a' := ?_) m3_44 rfl rfl (any_of HT_.out (by kernel_rfl)) (fun _ _ _ h => h) (Or.inl ⟨by rfl, ?_⟩) ?_ ?_; rotate_left
              · intro w'
                go_simp; (with_reducible rfl)
              rotate_left
              · simp only [Act.put, pa3_1, pa3_2, pa3_3, i64_w, i32_w]
                rfl
              refine pure_ (i := 36) (N := some 53) (v := ?_) (a' := ?_) m3_45 rfl rfl (any_of HT_.out (by kernel_rfl)) (fun _ _ _ h => h) (Or.inl ⟨by rfl, ?_⟩) ?_ ?_; rotate_left
              · intro w'
                go_simp; (with_reducible rfl)
              rotate_left
              · simp only [Act.put, pa3_1, pa3_2, pa3_3, i64_w, i32_w]
                rfl
              refine pure_ (i := 37) (N := some 54) (v := ?_) (a' := ?_) m3_46 rfl rfl (any_of HT_.out (by kernel_rfl)) (fun _ _ _ h => h) (Or.inl ⟨by rfl, ?_⟩) ?_ ?_; rotate_left
              · intro w'
                go_simp; (with_reducible rfl)
              rotate_left
              · simp only [Act.put, pa3_1, pa3_2, pa3_3, i64_w, i32_w]
                rfl
              refine pure_ (i := 38) (N := some 55) (v := ?_) (a' := ?_) m3_47 rfl rfl (any_of HT_.out (by kernel_rfl)) (fun _ _ _ h => h) (Or.inl ⟨by rfl, ?_⟩) ?_ ?_; rotate_left
              · intro w'
                go_simp; (with_reducible rfl)
              rotate_left
              · simp only [Act.put, pa3_1, pa3_2, pa3_3, i64_w, i32_w]
                rfl
              refine pure_ (i := 39) (N := some 56) (v := ?_) (a' := ?_) m3_48 rfl rfl (any_of HT_.out (by kernel_rfl)) (fun _ _ _ h => h) (Or.inl ⟨by rfl, ?_⟩) ?_ ?_; rotate_left
              · intro w'
                go_simp; (with_reducible rfl)
              rotate_left
              · simp only [Act.put, pa3_1, pa3_2, pa3_3, i64_w, i32_w]
                rfl
              refine pure_ (i := 40) (N := some 57) (v := ?_) (a' := ?_) m3_49 rfl rfl (any_of HT_.out (by kernel_rfl)) (fun _ _ _ h => h) (Or.inl ⟨by rfl, ?_⟩) ?_ ?_; rotate_left
              · intro w'
                go_simp; (with_reducible rfl)
              rotate_left
              · simp only [Act.put, pa3_1, pa3_2, pa3_3, i64_w, i32_w]
                rfl
              refine pure_ (i := 41) (N := some 58) (v := ?_) (a' := ?_) m3_50 rfl rfl (any_of HT_.out (by kernel_rfl)) (fun _ _ _ h => h) (Or.inl ⟨by rfl, ?_⟩) ?_ ?_; rotate_left
              · intro w'
                go_simp; (with_reducible rfl)
              rotate_left
              · simp only [Act.put, pa3_1, pa3_2, pa3_3, i64_w, i32_w]
                rfl
              refine pure_ (i := 43) (N := some 60) (v := ?_) (a' := ?_) m3_51 rfl rfl (any_of HT_.out (by kernel_rfl)) (fun _ _ _ h => h) (Or.inl ⟨by rfl, ?_⟩) ?_ ?_; rotate_left
              · intro w'
                go_simp; (with_reducible rfl)
              rotate_left
              · simp only [Act.put, pa3_1, pa3_2, pa3_3, i64_w, i32_w]
                rfl
              refine pure_ (i := 44) (N := some 61) (v := ?_) (a' := ?_) m3_52 rfl rfl (any_of HT_.out (by kernel_rfl)) (fun _ _ _ h => h) (Or.inl ⟨by rfl, ?_⟩) ?_ ?_; rotate_left
              · intro w'
                go_simp; (with_reducible rfl)
              rotate_left
              · simp only [Act.put, pa3_1, pa3_2, pa3_3, i64_w, i32_w]
                rfl
              refine pure_ (i := 45) (N := some 62) (v := ?_) (a' := ?_) m3_53 rfl rfl (any_of HT_.out (by kernel_rfl)) (fun _ _ _ h => h) (Or.inl ⟨by rfl, ?_⟩) ?_ ?_; rotate_left
              · intro w'
                go_simp; (with_reducible rfl)
              rotate_left
              · simp only [Act.put, pa3_1, pa3_2, pa3_3, i64_w, i32_w]
                rfl
              refine pure_ (i := 46) (N := some 63) (v := ?_) (a' := ?_) m3_54 rfl rfl (any_of HT_.out (by kernel_rfl)) (fun _ _ _ h => h) (Or.inl ⟨by rfl, ?_⟩) ?_ ?_; rotate_left
              · intro w'
                go_simp; (with_reducible rfl)
              rotate_left
              · simp only [Act.put, pa3_1, pa3_2, pa3_3, i64_w, i32_w]
                rfl
              refine take_ (i := 42) (N := some 59) (v := ?_) (a' := ?_) m3_59 rfl rfl (take_ofW HT_.out HW_.out (by kernel_rfl)) (fun _ _ _ h => h) (Or.inl ⟨by rfl, ?_⟩) hHeld ?_ ?_; rotate_left
              · rintro w' ⟨s0, s1, s2, s3, s4, s5, s6, s7, s8, s9, s10, s11⟩
                go_simp; (with_reducible rfl)
              rotate_left
              · simp only [Act.put, pa3_1, pa3_2, pa3_3, i64_w, i32_w]
                rfl
              refine take_ (i := 47) (N := some 64) (v := ?_) (a' := ?_) m3_60 rfl rfl (take_ofW HT_.out HW_.out (by kernel_rfl)) (fun _ _ _ h => h) (Or.inl ⟨by rfl, ?_⟩) hHeld ?_ ?_; rotate_left
              · rintro w' ⟨s0, s1, s2, s3, s4, s5, s6, s7, s8, s9, s10, s11⟩
                go_simp; (with_reducible rfl)
              rotate_left
              · simp only [Act.put, pa3_1, pa3_2, pa3_3, i64_w, i32_w]
                rfl
              refine pure_ (i := 48) (N := some 65) (v := ?_) (a' := ?_) m3_61 rfl rfl (any_of HT_.out (by kernel_rfl)) (fun _ _ _ h => h) (Or.inl ⟨by rfl, ?_⟩) ?_ ?_; rotate_left
              · intro w'
                go_simp; (with_reducible rfl)
              rotate_left
              · simp only [Act.put, pa3_1, pa3_2, pa3_3, i64_w, i32_w]
                rfl
              refine pure_ (i := 49) (N := some 66) (v := ?_) (a' := ?_) m3_62 rfl rfl (any_of HT_.out (by kernel_rfl)) (fun _ _ _ h => h) (Or.inl ⟨by rfl, ?_⟩) ?_ ?_; rotate_left
              · intro w'
                go_simp; (with_reducible rfl)
              rotate_left
              · simp only [Act.put, pa3_1, pa3_2, pa3_3, i64_w, i32_w]
                rfl
              refine pure_ (i := 50) (N := some 67) (v := ?_) (a' := ?_) m3_63 rfl rfl (any_of HT_.out (by kernel_rfl)) (fun _ _ _ h => h) (Or.inl ⟨by rfl, ?_⟩) ?_ ?_; rotate_left
              · intro w'
                go_simp; (with_reducible rfl)
              rotate_left
              · simp only [Act.put, pa3_1, pa3_2, pa3_3, i64_w, i32_w]
                rfl
              refine pure_ (i := 51) (N := some 68) (v := ?_) (a' := ?_) m3_64 rfl rfl (any_of HT_.out (by kernel_rfl)) (fun _ _ _ h => h) (Or.inl ⟨by rfl, ?_⟩) ?_ ?_; rotate_left
              · intro w'
                go_simp; (with_reducible rfl)
              rotate_left
              · simp only [Act.put, pa3_1, pa3_2, pa3_3, i64_w, i32_w]
                rfl
              refine pure_ (i := 52) (N := some 69) (v := ?_) (a' := ?_) m3_65 rfl rfl (any_of HT_.out (by kernel_rfl)) (fun _ _ _ h => h) (Or.inl ⟨by rfl, ?_⟩) ?_ ?_; rotate_left
              · intro w'
                go_simp; (with_reducible rfl)
              rotate_left
              · simp only [Act.put, pa3_1, pa3_2, pa3_3, i64_w, i32_w]
                rfl
              refine pure_ (i := 53) (N := some 70) (v := ?_) (a' := ?_) m3_66 rfl rfl (any_of HT_.out (by kernel_rfl)) (fun _ _ _ h => h) (Or.inl ⟨by rfl, ?_⟩) ?_ ?_; rotate_left
              · intro w'
                go_simp; (with_reducible rfl)
              rotate_left
              · simp only [Act.put, pa3_1, pa3_2, pa3_3, i64_w, i32_w]
                rfl
              refine pure_ (i := 54) (N := some 71) (v := ?_) (a' := ?_) m3_67 rfl rfl (any_of HT_.out (by kernel_rfl)) (fun _ _ _ h => h) (Or.inl ⟨by rfl, ?_⟩) ?_ ?_; rotate_left
              · intro w'
                go_simp; (with_reducible rfl)
              rotate_left
              · simp only [Act.put, pa3_1, pa3_2, pa3_3, i64_w, i32_w]
                rfl
              refine pure_ (i := 56) (N := some 73) (v := ?_) (a' := ?_) m3_68 rfl rfl (any_of HT_.out (by kernel_rfl)) (fun _ _ _ h => h) (Or.inl ⟨by rfl, ?_⟩) ?_ ?_; rotate_left
              · intro w'
                go_simp; (with_reducible rfl)
              rotate_left
              · simp only [Act.put, pa3_1, pa3_2, pa3_3, i64_w, i32_w]
                rfl
              refine pure_ (i := 57) (N := some 74) (v := ?_) (a' := ?_) m3_69 rfl rfl (any_of HT_.out (by kernel_rfl)) (fun _ _ _ h => h) (Or.inl ⟨by rfl, ?_⟩) ?_ ?_; rotate_left
              · intro w'
                go_simp; (with_reducible rfl)
              rotate_left
              · simp only [Act.put, pa3_1, pa3_2, pa3_3, i64_w, i32_w]
                rfl
              refine pure_ (i := 58) (N := some 75) (v := ?_) (a' := ?_) m3_70 rfl rfl (any_of HT_.out (by kernel_rfl)) (fun _ _ _ h => h) (Or.inl ⟨by rfl, ?_⟩) ?_ ?_; rotate_left
              · intro w'
                go_simp; (with_reducible rfl)
              rotate_left
              · simp only [Act.put, pa3_1, pa3_2, pa3_3, i64_w, i32_w]
                rfl
              refine pure_ (i := 59) (N := some 76) (v := ?_) (a' := ?_) m3_71 rfl rfl (any_of HT_.out (by kernel_rfl)) (fun _ _ _ h => h) (Or.inl ⟨by rfl, ?_⟩) ?_ ?_; rotate_left
              · intro w'
                go_simp; (with_reducible rfl)
              rotate_left
              · simp only [Act.put, pa3_1, pa3_2, pa3_3, i64_w, i32_w]
                rfl
              refine take_ (i := 55) (N := some 72) (v := ?_) (a' := ?_) m3_76 rfl rfl (take_ofW HT_.out HW_.out (by kernel_rfl)) (fun _ _ _ h => h) (Or.inl ⟨by rfl, ?_⟩) hHeld ?_ ?_; rotate_left
              · rintro w' ⟨s0, s1, s2, s3, s4, s5, s6, s7, s8, s9, s10, s11⟩
                go_simp; (with_reducible rfl)
              rotate_left
              · simp only [Act.put, pa3_1, pa3_2, pa3_3, i64_w, i32_w]
                rfl
              refine take_ (i := 60) (N := some 77) (v := ?_) (a' := ?_) m3_77 rfl rfl (take_ofW HT_.out HW_.out (by kernel_rfl)) (fun _ _ _ h => h) (Or.inl ⟨by rfl, ?_⟩) hHeld ?_ ?_; rotate_left
              · rintro w' ⟨s0, s1, s2, s3, s4, s5, s6, s7, s8, s9, s10, s11⟩
                go_simp; (with_reducible rfl)
              rotate_left
              · simp only [Act.put, pa3_1, pa3_2, pa3_3, i64_w, i32_w]
                rfl
              refine pure_ (i := 61) (N := some 78) (v := ?_) (a' := ?_) m3_78 rfl rfl (any_of HT_.out (by kernel_rfl)) (fun _ _ _ h => h) (Or.inl ⟨by rfl, ?_⟩) ?_ ?_; rotate_left
              · intro w'
                go_simp; (with_reducible rfl)
              rotate_left
              · simp only [Act.put, pa3_1, pa3_2, pa3_3, i64_w, i32_w]
                rfl
              refine pure_ (i := 62) (N := some 79) (v := ?_) (a' := ?_) m3_79 rfl rfl (any_of HT_.out (by kernel_rfl)) (fun _ _ _ h => h) (Or.inl ⟨by rfl, ?_⟩) ?_ ?_; rotate_left
              · intro w'
                go_simp; (with_reducible rfl)
              rotate_left
              · simp only [Act.put, pa3_1, pa3_2, pa3_3, i64_w, i32_w]
                rfl
              refine pure_ (i := 63) (N := some 80) (v := ?_) (a' := ?_) m3_80 rfl rfl (any_of HT_.out (by kernel_rfl)) (fun _ _ _ h => h) (Or.inl ⟨by rfl, ?_⟩) ?_ ?_; rotate_left
              · intro w'
                go_simp; (with_reducible rfl)
              rotate_left
              · simp only [Act.put, pa3_1, pa3_2, pa3_3, i64_w, i32_w]
                rfl
              refine pure_ (i := 64) (N := some 81) (v := undef) (a' := ?_) m3_81 rfl rfl (any_of HT_.out (by kernel_rfl)) (fun _ _ _ h => h) (Or.inr ⟨by rfl, rfl⟩) ?_ ?_; rotate_left
              · simp only [Act.put, pa3_1, pa3_2, pa3_3, i64_w, i32_w]
                rfl
              refine pure_ (i := 65) (N := some 82) (v := undef) (a' := ?_) m3_82 rfl rfl (any_of HT_.out (by kernel_rfl)) (fun _ _ _ h => h) (Or.inr ⟨by rfl, rfl⟩) ?_ ?_; rotate_left
              · simp only [Act.put, pa3_1, pa3_2, pa3_3, i64_w, i32_w]
                rfl
              refine pure_ (i := 66) (N := some 83) (v := undef) (a' := ?_) m3_83 rfl rfl (any_of HT_.out (by kernel_rfl)) (fun _ _ _ h => h) (Or.inr ⟨by rfl, rfl⟩) ?_ ?_; rotate_left
              · simp only [Act.put, pa3_1, pa3_2, pa3_3, i64_w, i32_w]
                rfl
              refine pure_ (i := 67) (N := some 84) (v := undef) (a' := ?_) m3_84 rfl rfl (any_of HT_.out (by kernel_rfl)) (fun _ _ _ h => h) (Or.inr ⟨by rfl, rfl⟩) ?_ ?_; rotate_left
              · simp only [Act.put, pa3_1, pa3_2, pa3_3, i64_w, i32_w]
                rfl
              refine pure_ (i := 68) (N := some 85) (v := undef) (a' := ?_) m3_89 rfl rfl (any_of HT_.out (by kernel_rfl)) (fun _ _ _ h => h) (Or.inr ⟨by rfl, rfl⟩) ?_ ?_; rotate_left
              · simp only [Act.put, pa3_1, pa3_2, pa3_3, i64_w, i32_w]
                rfl
              refine pure_ (i := 69) (N := some 86) (v := undef) (a' := ?_) m3_90 rfl rfl (any_of HT_.out (by kernel_rfl)) (fun _ _ _ h => h) (Or.inr ⟨by rfl, rfl⟩) ?_ ?_; rotate_left
              · simp only [Act.put, pa3_1, pa3_2, pa3_3, i64_w, i32_w]
                rfl
              refine pure_ (i := 70) (N := some 87) (v := undef) (a' := ?_) m3_91 rfl rfl (any_of HT_.out (by kernel_rfl)) (fun _ _ _ h => h) (Or.inr ⟨by rfl, rfl⟩) ?_ ?_; rotate_left
              · simp only [Act.put, pa3_1, pa3_2, pa3_3, i64_w, i32_w]
                rfl
              refine pure_ (i := 71) (N := some 88) (v := undef) (a' := ?_) m3_92 rfl rfl (any_of HT_.out (by kernel_rfl)) (fun _ _ _ h => h) (Or.inr ⟨by rfl, rfl⟩) ?_ ?_; rotate_left
              · simp only [Act.put, pa3_1, pa3_2, pa3_3, i64_w, i32_w]
                rfl
              refine pure_ (i := 72) (N := some 89) (v := undef) (a' := ?_) m3_93 rfl rfl (any_of HT_.out (by kernel_rfl)) (fun _ _ _ h => h) (Or.inr ⟨by rfl, rfl⟩) ?_ ?_; rotate_left
              · simp only [Act.put, pa3_1, pa3_2, pa3_3, i64_w, i32_w]
                rfl
              refine pure_ (i := 73) (N := some 90) (v := undef) (a' := ?_) m3_94 rfl rfl (any_of HT_.out (by kernel_rfl)) (fun _ _ _ h => h) (Or.inr ⟨by rfl, rfl⟩) ?_ ?_; rotate_left
              · simp only [Act.put, pa3_1, pa3_2, pa3_3, i64_w, i32_w]
                rfl
              refine pure_ (i := 74) (N := some 91) (v := undef) (a' := ?_) m3_95 rfl rfl (any_of HT_.out (by kernel_rfl)) (fun _ _ _ h => h) (Or.inr ⟨by rfl, rfl⟩) ?_ ?_; rotate_left
              · simp only [Act.put, pa3_1, pa3_2, pa3_3, i64_w, i32_w]
                rfl
              refine pure_ (i := 75) (N := some 92) (v := undef) (a' := ?_) m3_96 rfl rfl (any_of HT_.out (by kernel_rfl)) (fun _ _ _ h => h) (Or.inr ⟨by rfl, rfl⟩) ?_ ?_; rotate_left
              · simp only [Act.put, pa3_1, pa3_2, pa3_3, i64_w, i32_w]
                rfl
              refine pure_ (i := 76) (N := some 93) (v := ?_) (a' := ?_) m3_97 rfl rfl (any_of HT_.out (by kernel_rfl)) (fun _ _ _ h => h) (Or.inl ⟨by rfl, ?_⟩) ?_ ?_; rotate_left
              · intro w'
                go_simp; (with_reducible rfl)
              rotate_left
              · simp only [Act.put, pa3_1, pa3_2, pa3_3, i64_w, i32_w]
                rfl
              refine done_ (done_of HT_.out (by kernel_rfl)) ?_
              try go_wp2
              go_meet
              case rel => exact ⟨_, (true), d3_2, H', ⟨by have := HK1.out; first | omega | exact Nat.le_refl _⟩, ⟨c3_1⟩⟩
            ·rw [if_neg c11] at H
             have c11b0 : (((rd_T34 l0 x5_1).f3) == ((rd_T34 l1 x5_1).f3)) = false := beq_eq_false_iff_ne.mpr c11; have c11b1 : (((rd_T34 l0 x5_1).f3) != ((rd_T34 l1 x5_1).f3)) = true := bne_iff_ne.mpr c11; have H' := ak H; clear H
             try go_wp2
             have n0_ := ak (below_drew1 HB.out); clear HB; have HB := n0_; clear n0_; have p110 : 0 ≤ (x5_1 : Int) := of_decide_eq_true d3_1; have q110 : x5_1 < (l0.length : Int) := of_decide_eq_true d3_1; obtain ⟨ad110, A110_5, c110_5, e110, hx110_0, hx110_1, hx110_2, hx110_3, hx110_4, hx110_5, hl110_5, hi110_5⟩ := at_T34 HR0.out x5_1 p110 q110; have hw110_5 := hx110_5; have hw110_4 := hx110_4; have hw110_3 := hx110_3; have hw110_2 := hx110_2; have hw110_1 := hx110_1; have hw110_0 := hx110_0
             cases e110
             replace hx110_0 := (HB.out.cell (World.block_lt_of_cell? w _ hx110_0)).trans hx110_0; replace hx110_1 := (HB.out.cell (World.block_lt_of_cell? w _ hx110_1)).trans hx110_1; replace hx110_2 := (HB.out.cell (World.block_lt_of_cell? w _ hx110_2)).trans hx110_2; replace hx110_3 := (HB.out.cell (World.block_lt_of_cell? w _ hx110_3)).trans hx110_3; replace hx110_4 := (HB.out.cell (World.block_lt_of_cell? w _ hx110_4)).trans hx110_4; replace hx110_5 := (HB.out.cell (World.block_lt_of_cell? w _ hx110_5)).trans hx110_5; have HR110_5 := ak hi110_5; have HC110_5 := ak hl110_5; clear hi110_5 hl110_5; replace p110 := eq_true p110; replace q110 := eq_true q110; have p111 : 0 ≤ (x5_1 : Int) := of_decide_eq_true d3_1; have q111 : x5_1 < (l1.length : Int) := of_decide_eq_true d3_1; obtain ⟨ad111, A111_5, c111_5, e111, hx111_0, hx111_1, hx111_2, hx111_3, hx111_4, hx111_5, hl111_5, hi111_5⟩ := at_T34 HR1.out x5_1 p111 q111; have hw111_5 := hx111_5; have hw111_4 := hx111_4; have hw111_3 := hx111_3; have hw111_2 := hx111_2; have hw111_1 := hx111_1; have hw111_0 := hx111_0
             cases e111
             replace hx111_0 := (HB.out.cell (World.block_lt_of_cell? w _ hx111_0)).trans hx111_0; replace hx111_1 := (HB.out.cell (World.block_lt_of_cell? w _ hx111_1)).trans hx111_1; replace hx111_2 := (HB.out.cell (World.block_lt_of_cell? w _ hx111_2)).trans hx111_2; replace hx111_3 := (HB.out.cell (World.block_lt_of_cell? w _ hx111_3)).trans hx111_3; replace hx111_4 := (HB.out.cell (World.block_lt_of_cell? w _ hx111_4)).trans hx111_4; replace hx111_5 := (HB.out.cell (World.block_lt_of_cell? w _ hx111_5)).trans hx111_5; have HR111_5 := ak hi111_5; have HC111_5 := ak hl111_5; clear hi111_5 hl111_5; replace p111 := eq_true p111; replace q111 := eq_true q111; have p112 : 0 ≤ (x5_1 : Int) := of_decide_eq_true d3_1; have q112 : x5_1 < (l0.length : Int) := of_decide_eq_true d3_1; obtain ⟨ad112, A112_5, c112_5, e112, hx112_0, hx112_1, hx112_2, hx112_3, hx112_4, hx112_5, hl112_5, hi112_5⟩ := at_T34 HR0.out x5_1 p112 q112; have hw112_5 := hx112_5; have hw112_4 := hx112_4; have hw112_3 := hx112_3; have hw112_2 := hx112_2; have hw112_1 := hx112_1; have hw112_0 := hx112_0; obtain rfl : ad110 = ad112 := (by injection e112); replace hx112_0 := (HB.out.cell (World.block_lt_of_cell? w _ hx112_0)).trans hx112_0; replace hx112_1 := (HB.out.cell (World.block_lt_of_cell? w _ hx112_1)).trans hx112_1; replace hx112_2 := (HB.out.cell (World.block_lt_of_cell? w _ hx112_2)).trans hx112_2; replace hx112_3 := (HB.out.cell (World.block_lt_of_cell? w _ hx112_3)).trans hx112_3
             replace hx112_4 := (HB.out.cell (World.block_lt_of_cell? w _ hx112_4)).trans hx112_4; replace hx112_5 := (HB.out.cell (World.block_lt_of_cell? w _ hx112_5)).trans hx112_5; have HR112_5 := ak hi112_5; have HC112_5 := ak hl112_5; clear hi112_5 hl112_5; replace p112 := eq_true p112; replace q112 := eq_true q112; have ea_ := Option.some.inj (hx110_5.symm.trans hx112_5); injection ea_ with ea_ en_ ec_; subst ea_; subst ec_; clear en_; have p113 : 0 ≤ (x5_1 : Int) := of_decide_eq_true d3_1; have q113 : x5_1 < (l1.length : Int) := of_decide_eq_true d3_1; obtain ⟨ad113, A113_5, c113_5, e113, hx113_0, hx113_1, hx113_2, hx113_3, hx113_4, hx113_5, hl113_5, hi113_5⟩ := at_T34 HR1.out x5_1 p113 q113; have hw113_5 := hx113_5; have hw113_4 := hx113_4; have hw113_3 := hx113_3; have hw113_2 := hx113_2; have hw113_1 := hx113_1; have hw113_0 := hx113_0; obtain rfl : ad111 = ad113 := (by injection e113); replace hx113_0 := (HB.out.cell (World.block_lt_of_cell? w _ hx113_0)).trans hx113_0; replace hx113_1 := (HB.out.cell (World.block_lt_of_cell? w _ hx113_1)).trans hx113_1; replace hx113_2 := (HB.out.cell (World.block_lt_of_cell? w _ hx113_2)).trans hx113_2; replace hx113_3 := (HB.out.cell (World.block_lt_of_cell? w _ hx113_3)).trans hx113_3; replace hx113_4 := (HB.out.cell (World.block_lt_of_cell? w _ hx113_4)).trans hx113_4; replace hx113_5 := (HB.out.cell (World.block_lt_of_cell? w _ hx113_5)).trans hx113_5; have HR113_5 := ak hi113_5; have HC113_5 := ak hl113_5
             clear hi113_5 hl113_5; replace p113 := eq_true p113; replace q113 := eq_true q113; have ea_ := Option.some.inj (hx111_5.symm.trans hx113_5); injection ea_ with ea_ en_ ec_; subst ea_; subst ec_; clear en_; have p114 : 0 ≤ (x5_1 : Int) := of_decide_eq_true d3_1; have q114 : x5_1 < (l0.length : Int) := of_decide_eq_true d3_1; obtain ⟨ad114, A114_5, c114_5, e114, hx114_0, hx114_1, hx114_2, hx114_3, hx114_4, hx114_5, hl114_5, hi114_5⟩ := at_T34 HR0.out x5_1 p114 q114; have hw114_5 := hx114_5; have hw114_4 := hx114_4; have hw114_3 := hx114_3; have hw114_2 := hx114_2; have hw114_1 := hx114_1; have hw114_0 := hx114_0; obtain rfl : ad110 = ad114 := (by injection e114); replace hx114_0 := (HB.out.cell (World.block_lt_of_cell? w _ hx114_0)).trans hx114_0; replace hx114_1 := (HB.out.cell (World.block_lt_of_cell? w _ hx114_1)).trans hx114_1; replace hx114_2 := (HB.out.cell (World.block_lt_of_cell? w _ hx114_2)).trans hx114_2; replace hx114_3 := (HB.out.cell (World.block_lt_of_cell? w _ hx114_3)).trans hx114_3; replace hx114_4 := (HB.out.cell (World.block_lt_of_cell? w _ hx114_4)).trans hx114_4; replace hx114_5 := (HB.out.cell (World.block_lt_of_cell? w _ hx114_5)).trans hx114_5; have HR114_5 := ak hi114_5; have HC114_5 := ak hl114_5; clear hi114_5 hl114_5; replace p114 := eq_true p114; replace q114 := eq_true q114; have ea_ := Option.some.inj (hx110_5.symm.trans hx114_5); injection ea_ with ea_ en_ ec_; subst ea_; subst ec_; clear en_
             have p115 : 0 ≤ (x5_1 : Int) := of_decide_eq_true d3_1; have q115 : x5_1 < (l1.length : Int) := of_decide_eq_true d3_1; obtain ⟨ad115, A115_5, c115_5, e115, hx115_0, hx115_1, hx115_2, hx115_3, hx115_4, hx115_5, hl115_5, hi115_5⟩ := at_T34 HR1.out x5_1 p115 q115; have hw115_5 := hx115_5; have hw115_4 := hx115_4; have hw115_3 := hx115_3; have hw115_2 := hx115_2; have hw115_1 := hx115_1; have hw115_0 := hx115_0; obtain rfl : ad111 = ad115 := (by injection e115); replace hx115_0 := (HB.out.cell (World.block_lt_of_cell? w _ hx115_0)).trans hx115_0; replace hx115_1 := (HB.out.cell (World.block_lt_of_cell? w _ hx115_1)).trans hx115_1; replace hx115_2 := (HB.out.cell (World.block_lt_of_cell? w _ hx115_2)).trans hx115_2; replace hx115_3 := (HB.out.cell (World.block_lt_of_cell? w _ hx115_3)).trans hx115_3; replace hx115_4 := (HB.out.cell (World.block_lt_of_cell? w _ hx115_4)).trans hx115_4; replace hx115_5 := (HB.out.cell (World.block_lt_of_cell? w _ hx115_5)).trans hx115_5; have HR115_5 := ak hi115_5; have HC115_5 := ak hl115_5; clear hi115_5 hl115_5; replace p115 := eq_true p115; replace q115 := eq_true q115; have ea_ := Option.some.inj (hx111_5.symm.trans hx115_5); injection ea_ with ea_ en_ ec_; subst ea_; subst ec_; clear en_; have p116 : 0 ≤ (x5_1 : Int) := of_decide_eq_true d3_1; have q116 : x5_1 < (l0.length : Int) := of_decide_eq_true d3_1
             obtain ⟨ad116, A116_5, c116_5, e116, hx116_0, hx116_1, hx116_2, hx116_3, hx116_4, hx116_5, hl116_5, hi116_5⟩ := at_T34 HR0.out x5_1 p116 q116; have hw116_5 := hx116_5; have hw116_4 := hx116_4; have hw116_3 := hx116_3; have hw116_2 := hx116_2; have hw116_1 := hx116_1; have hw116_0 := hx116_0; obtain rfl : ad110 = ad116 := (by injection e116); replace hx116_0 := (HB.out.cell (World.block_lt_of_cell? w _ hx116_0)).trans hx116_0; replace hx116_1 := (HB.out.cell (World.block_lt_of_cell? w _ hx116_1)).trans hx116_1; replace hx116_2 := (HB.out.cell (World.block_lt_of_cell? w _ hx116_2)).trans hx116_2; replace hx116_3 := (HB.out.cell (World.block_lt_of_cell? w _ hx116_3)).trans hx116_3; replace hx116_4 := (HB.out.cell (World.block_lt_of_cell? w _ hx116_4)).trans hx116_4; replace hx116_5 := (HB.out.cell (World.block_lt_of_cell? w _ hx116_5)).trans hx116_5; have HR116_5 := ak hi116_5; have HC116_5 := ak hl116_5; clear hi116_5 hl116_5; replace p116 := eq_true p116; replace q116 := eq_true q116; have ea_ := Option.some.inj (hx110_5.symm.trans hx116_5); injection ea_ with ea_ en_ ec_; subst ea_; subst ec_; clear en_; have p117 : 0 ≤ (x5_1 : Int) := of_decide_eq_true d3_1; have q117 : x5_1 < (l1.length : Int) := of_decide_eq_true d3_1; obtain ⟨ad117, A117_5, c117_5, e117, hx117_0, hx117_1, hx117_2, hx117_3, hx117_4, hx117_5, hl117_5, hi117_5⟩ := at_T34 HR1.out x5_1 p117 q117; have hw117_5 := hx117_5; have hw117_4 := hx117_4; have hw117_3 := hx117_3
             have hw117_2 := hx117_2; have hw117_1 := hx117_1; have hw117_0 := hx117_0; obtain rfl : ad111 = ad117 := (by injection e117); replace hx117_0 := (HB.out.cell (World.block_lt_of_cell? w _ hx117_0)).trans hx117_0; replace hx117_1 := (HB.out.cell (World.block_lt_of_cell? w _ hx117_1)).trans hx117_1; replace hx117_2 := (HB.out.cell (World.block_lt_of_cell? w _ hx117_2)).trans hx117_2; replace hx117_3 := (HB.out.cell (World.block_lt_of_cell? w _ hx117_3)).trans hx117_3; replace hx117_4 := (HB.out.cell (World.block_lt_of_cell? w _ hx117_4)).trans hx117_4; replace hx117_5 := (HB.out.cell (World.block_lt_of_cell? w _ hx117_5)).trans hx117_5; have HR117_5 := ak hi117_5; have HC117_5 := ak hl117_5; clear hi117_5 hl117_5; replace p117 := eq_true p117; replace q117 := eq_true q117; have ea_ := Option.some.inj (hx111_5.symm.trans hx117_5); injection ea_ with ea_ en_ ec_; subst ea_; subst ec_; clear en_; clear hx115_5 hx116_0 hx116_1 hx116_2 hx116_3 hx116_4 hx116_5 hx117_0 hx117_1 hx117_2 hx117_3 hx117_4 hx117_5
             refine start_ (n := 77) (S := fun w' => w'.cell? (ad110.add ((x5_1).toNat * 6)) = some (.int .i64 ((rd_T34 l0 x5_1).f0)) ∧ w'.cell? ⟨(ad110.add ((x5_1).toNat * 6)).block, (ad110.add ((x5_1).toNat * 6)).off + 1, none⟩ = some (.int .i64 ((rd_T34 l0 x5_1).f1)) ∧ w'.cell? ⟨(ad110.add ((x5_1).toNat * 6)).block, (ad110.add ((x5_1).toNat * 6)).off + 2, none⟩ = some (.int .i64 ((rd_T34 l0 x5_1).f2)) ∧ w'.cell? ⟨(ad110.add ((x5_1).toNat * 6)).block, (ad110.add ((x5_1).toNat * 6)).off + 3, none⟩ = some (.int .i64 ((rd_T34 l0 x5_1).f3)) ∧ w'.cell? ⟨(ad110.add ((x5_1).toNat * 6)).block, (ad110.add ((x5_1).toNat * 6)).off + 4, none⟩ = some (.string ((rd_T34 l0 x5_1).f4)) ∧ w'.cell? ⟨(ad110.add ((x5_1).toNat * 6)).block, (ad110.add ((x5_1).toNat * 6)).off + 5, none⟩ = some (.slice A110_5 ((rd_T34 l0 x5_1).f5).length c110_5) ∧ w'.cell? (ad111.add ((x5_1).toNat * 6)) = some (.int .i64 ((rd_T34 l1 x5_1).f0)) ∧ w'.cell? ⟨(ad111.add ((x5_1).toNat * 6)).block, (ad111.add ((x5_1).toNat * 6)).off + 1, none⟩ = some (.int .i64 ((rd_T34 l1 x5_1).f1)) ∧ w'.cell? ⟨(ad111.add ((x5_1).toNat * 6)).block, (ad111.add ((x5_1).toNat * 6)).off + 2, none⟩ = some (.int .i64 ((rd_T34 l1 x5_1).f2)) ∧ w'.cell? ⟨(ad111.add ((x5_1).toNat * 6)).block, (ad111.add ((x5_1).toNat * 6)).off + 3, none⟩ = some (.int .i64 ((rd_T34 l1 x5_1).f3)) ∧ w'.cell? ⟨(ad111.add ((x5_1).toNat * 6)).block, (ad111.add ((x5_1).toNat * 6)).off + 4, none⟩ = some (.string ((rd_T34 l1 x5_1).f4)) ∧ w'.cell? ⟨(ad111.add ((x5_1).toNat * 6)).block, (ad111.add ((x5_1).toNat * 6)).off + 5, none⟩ = some (.slice A111_5 ((rd_T34 l1 x5_1).f5).length c111_5)) (ds := []) m3_0 (by kernel_rfl) rfl rfl ⟨((HB.out.cell (World.block_lt_of_cell? w _ hw110_0)).trans hw110_0), ((HB.out.cell (World.block_lt_of_cell? w _ hw110_1)).trans hw110_1), ((HB.out.cell (World.block_lt_of_cell? w _ hw110_2)).trans hw110_2), ((HB.out.cell (World.block_lt_of_cell? w _ hw110_3)).trans hw110_3), ((HB.out.cell (World.block_lt_of_cell? w _ hw110_4)).trans hw110_4), ((HB.out.cell (World.block_lt_of_cell? w _ hw110_5)).trans hw110_5), ((HB.out.cell (World.block_lt_of_cell? w _ hw111_0)).trans hw111_0), ((HB.out.cell (World.block_lt_of_cell? w _ hw111_1)).trans hw111_1), ((HB.out.cell (World.block_lt_of_cell? w _ hw111_2)).trans hw111_2), ((HB.out.cell (World.block_lt_of_cell? w _ hw111_3)).trans hw111_3), ((HB.out.cell (World.block_lt_of_cell? w _ hw111_4)).trans hw111_4), ((HB.out.cell (World.block_lt_of_cell? w _ hw111_5)).trans hw111_5)⟩ (fun hHeld => ?_); refine with_tabW spec_SameCores.tab6 spec_SameCores.bits6 (fun HT_ HW_ => ?_)
             generalize wr.drew = w16 at HB HR110_5 HR111_5 HR112_5 HR113_5 HR114_5 HR115_5 HR116_5 HR117_5 hx110_0 hx110_1 hx110_2 hx110_3 hx110_4 hx110_5 hx111_0 hx111_1 hx111_2 hx111_3 hx111_4 hx111_5 hx112_0 hx112_1 hx112_2 hx112_3 hx112_4 hx112_5 hx113_0 hx113_1 hx113_2 hx113_3 hx113_4 hx113_5 hx114_0 hx114_1 hx114_2 hx114_3 hx114_4 hx114_5 hx115_0 hx115_1 hx115_2 hx115_3 hx115_4 hHeld ⊢; refine pure_ (i := 0) (N := some 17) (v := ?_) (a' := ?_) m3_1 rfl rfl (any_of HT_.out (by kernel_rfl)) (fun _ _ _ h => h) (Or.inl ⟨by rfl, ?_⟩) ?_ ?_; rotate_left
             · intro w'
               go_simp; (with_reducible rfl)
             rotate_left
             · simp only [Act.put, pa3_1, pa3_2, pa3_3, i64_w, i32_w]
               rfl
             refine pure_ (i := 1) (N := some 18) (v := ?_) (a' := ?_) m3_2 rfl rfl (any_of HT_.out (by kernel_rfl)) (fun _ _ _ h => h) (Or.inl ⟨by rfl, ?_⟩) ?_ ?_; rotate_left
             · intro w'
               go_simp; (with_reducible rfl)
             rotate_left
             · simp only [Act.put, pa3_1, pa3_2, pa3_3, i64_w, i32_w]
               rfl
             refine pure_ (i := 2) (N := some 19) (v := ?_) (a' := ?_) m3_3 rfl rfl (any_of HT_.out (by kernel_rfl)) (fun _ _ _ h => h) (Or.inl ⟨by rfl, ?_⟩) ?_ ?_; rotate_left
             · intro w'
               go_simp; (with_reducible rfl)
             rotate_left
             · simp only [Act.put, pa3_1, pa3_2, pa3_3, i64_w, i32_w]
               rfl
             refine pure_ (i := 3) (N := some 20) (v := ?_) (a' := ?_) m3_4 rfl rfl (any_of HT_.out (by kernel_rfl)) (fun _ _ _ h => h) (Or.inl ⟨by rfl, ?_⟩) ?_ ?_; rotate_left
             · intro w'
               go_simp; (with_reducible rfl)
             rotate_left
             · simp only [Act.put, pa3_1, pa3_2, pa3_3, i64_w, i32_w]
               rfl
             refine pure_ (i := 5) (N := some 22) (v := ?_) (a' := ?_) m3_5 rfl rfl (any_of HT_.out (by kernel_rfl)) (fun _ _ _ h => h) (Or.inl ⟨by rfl, ?_⟩) ?_ ?_; rotate_left
             · intro w'
               go_simp; (with_reducible rfl)
             rotate_left
             · simp only [Act.put, pa3_1, pa3_2, pa3_3, i64_w, i32_w]
               rfl
             refine pure_ (i := 6) (N := some 23) (v := ?_) (a' := ?_) m3_6 rfl rfl (any_of HT_.out (by kernel_rfl)) (fun _ _ _ h => h) (Or.inl ⟨by rfl, ?_⟩) ?_ ?_; rotate_left
             · intro w'
               go_simp; (with_reducible rfl)
             rotate_left
             · simp only [Act.put, pa3_1, pa3_2, pa3_3, i64_w, i32_w]
               rfl
             refine pure_ (i := 7) (N := some 24) (v := ?_) (a' := ?_) m3_7 rfl rfl (any_of HT_.out (by kernel_rfl)) (fun _ _ _ h => h) (Or.inl ⟨by rfl, ?_⟩) ?_ ?_; rotate_left
             · intro w'
               go_simp; (with_reducible rfl)
             rotate_left
             · simp only [Act.put, pa3_1, pa3_2, pa3_3, i64_w, i32_w]
               rfl
             refine pure_ (i := 8) (N := some 25) (v := ?_) (a' := ?_) m3_8 rfl rfl (any_of HT_.out (by kernel_rfl)) (fun _ _ _ h => h) (Or.inl ⟨by rfl, ?_⟩) ?_ ?_; rotate_left
             · intro w'
               go_simp; (with_reducible rfl)
             rotate_left
             · simp only [Act.put, pa3_1, pa3_2, pa3_3, i64_w, i32_w]
               rfl
             refine take_ (i := 4) (N := some 21) (v := ?_) (a' := ?_) m3_9 rfl rfl (take_ofW HT_.out HW_.out (by kernel_rfl)) (fun _ _ _ h => h) (Or.inl ⟨by rfl, ?_⟩) hHeld ?_ ?_; rotate_left
             · rintro w' ⟨s0, s1, s2, s3, s4, s5, s6, s7, s8, s9, s10, s11⟩
               go_simp; (with_reducible rfl)
             rotate_left
             · simp only [Act.put, pa3_1, pa3_2, pa3_3, i64_w, i32_w]
               rfl
             refine take_ (i := 9) (N := some 26) (v := ?_) (a' := ?_) m3_10 rfl rfl (take_ofW HT_.out HW_.out (by kernel_rfl)) (fun _ _ _ h => h) (Or.inl ⟨by rfl, ?_⟩) hHeld ?_ ?_; rotate_left
             · rintro w' ⟨s0, s1, s2, s3, s4, s5, s6, s7, s8, s9, s10, s11⟩
               go_simp; (with_reducible rfl)
             rotate_left
             · simp only [Act.put, pa3_1, pa3_2, pa3_3, i64_w, i32_w]
               rfl
             refine pure_ (i := 10) (N := some 27) (v := ?_) (a' := ?_) m3_11 rfl rfl (any_of HT_.out (by kernel_rfl)) (fun _ _ _ h => h) (Or.inl ⟨by rfl, ?_⟩) ?_ ?_; rotate_left
             · intro w'
               go_simp; (with_reducible rfl)
             rotate_left
             · simp only [Act.put, pa3_1, pa3_2, pa3_3, i64_w, i32_w]
               rfl
             refine pure_ (i := 11) (N := some 28) (v := ?_) (a' := ?_) m3_12 rfl rfl (any_of HT_.out (by kernel_rfl)) (fun _ _ _ h => h) (Or.inl ⟨by rfl, ?_⟩) ?_ ?_; rotate_left
             · intro w'
               go_simp; (with_reducible rfl)
             rotate_left
             · simp only [Act.put, pa3_1, pa3_2, pa3_3, i64_w, i32_w]
               rfl
             refine pure_ (i := 12) (N := some 29) (v := ?_) (a' := ?_) m3_13 rfl rfl (any_of HT_.out (by kernel_rfl)) (fun _ _ _ h => h) (Or.inl ⟨by rfl, ?_⟩) ?_ ?_; rotate_left
             · intro w'
               go_simp; (with_reducible rfl)
             rotate_left
             · simp only [Act.put, pa3_1, pa3_2, pa3_3, i64_w, i32_w]
               rfl
             refine pure_ (i := 13) (N := some 30) (v := ?_) (a' := ?_) m3_14 rfl rfl (any_of HT_.out (by kernel_rfl)) (fun _ _ _ h => h) (Or.inl ⟨by rfl, ?_⟩) ?_ ?_; rotate_left
             · intro w'
               go_simp; (with_reducible rfl)
             rotate_left
             · simp only [Act.put, pa3_1, pa3_2, pa3_3, i64_w, i32_w]
               rfl
             refine pure_ (i := 14) (N := some 31) (v := ?_) (a' := ?_) m3_15 rfl rfl (any_of HT_.out (by kernel_rfl)) (fun _ _ _ h => h) (Or.inl ⟨by rfl, ?_⟩) ?_ ?_; rotate_left
             · intro w'
               go_simp; (with_reducible rfl)
             rotate_left
             · simp only [Act.put, pa3_1, pa3_2, pa3_3, i64_w, i32_w]
               rfl
             refine pure_ (i := 15) (N := some 32) (v := ?_) (a' := ?_) m3_16 rfl rfl (any_of HT_.out (by kernel_rfl)) (fun _ _ _ h => h) (Or.inl ⟨by rfl, ?_⟩) ?_ ?_; rotate_left
             · intro w'
               go_simp; (with_reducible rfl)
             rotate_left
             · simp only [Act.put, pa3_1, pa3_2, pa3_3, i64_w, i32_w]
               rfl
             refine pure_ (i := 17) (N := some 34) (v := ?_) (a' := ?_) m3_17 rfl rfl (any_of HT_.out (by kernel_rfl)) (fun _ _ _ h => h) (Or.inl ⟨by rfl, ?_⟩) ?_ ?_; rotate_left
             · intro w'
               go_simp; (with_reducible rfl)
             rotate_left
             · simp only [Act.put, pa3_1, pa3_2, pa3_3, i64_w, i32_w]
               rfl
             refine pure_ (i := 18) (N := some 35) (v := ?_) (a' := ?_) m3_18 rfl rfl (any_of HT_.out (by kernel_rfl)) (fun _ _ _ h => h) (Or.inl ⟨by rfl, ?_⟩) ?_ ?_; rotate_left
             · intro w'
               go_simp; (with_reducible rfl)
             rotate_left
             · simp only [Act.put, pa3_1, pa3_2, pa3_3, i64_w, i32_w]
               rfl
             refine pure_ (i := 19) (N := some 36) (v := ?_) (a' := ?_) m3_19 rfl rfl (any_of HT_.out (by kernel_rfl)) (fun _ _ _ h => h) (Or.inl ⟨by rfl, ?_⟩) ?_ ?_; rotate_left
             · intro w'
               go_simp; (with_reducible rfl)
             rotate_left
             · simp only [Act.put, pa3_1, pa3_2, pa3_3, i64_w, i32_w]
               rfl
             refine pure_ (i := 20) (N := some 37) (v := ?_) (a' := ?_) m3_20 rfl rfl (any_of HT_.out (by kernel_rfl)) (fun _ _ _ h => h) (Or.inl ⟨by rfl, ?_⟩) ?_ ?_; rotate_left
             · intro w'
               go_simp; (with_reducible rfl)
             rotate_left
             · simp only [Act.put, pa3_1, pa3_2, pa3_3, i64_w, i32_w]
               rfl
             refine take_ (i := 16) (N := some 33) (v := ?_) (a' := ?_) m3_25 rfl rfl (take_ofW HT_.out HW_.out (by kernel_rfl)) (fun _ _ _ h => h) (Or.inl ⟨by rfl, ?_⟩) hHeld ?_ ?_; rotate_left
             · rintro w' ⟨s0, s1, s2, s3, s4, s5, s6, s7, s8, s9, s10, s11⟩
               go_simp; (with_reducible rfl)
             rotate_left
             · simp only [Act.put, pa3_1, pa3_2, pa3_3, i64_w, i32_w]
               rfl
             refine take_ (i := 21) (N := some 38) (v := ?_) (a' := ?_) m3_26 rfl rfl (take_ofW HT_.out HW_.out (by kernel_rfl)) (fun _ _ _ h => h) (Or.inl ⟨by rfl, ?_⟩) hHeld ?_ ?_; rotate_left
             · rintro w' ⟨s0, s1, s2, s3, s4, s5, s6, s7, s8, s9, s10, s11⟩
               go_simp; (with_reducible rfl)
             rotate_left
             · simp only [Act.put, pa3_1, pa3_2, pa3_3, i64_w, i32_w]
               rfl
             refine pure_ (i := 22) (N := some 39) (v := ?_) (a' := ?_) m3_27 rfl rfl (any_of HT_.out (by kernel_rfl)) (fun _ _ _ h => h) (Or.inl ⟨by rfl, ?_⟩) ?_ ?_; rotate_left
             · intro w'
               go_simp; (with_reducible rfl)
             rotate_left
             · simp only [Act.put, pa3_1, pa3_2, pa3_3, i64_w, i32_w]
               rfl
             refine pure_ (i := 23) (N := some 40) (v := ?_) (a' := ?_) m3_28 rfl rfl (any_of HT_.out (by kernel_rfl)) (fun _ _ _ h => h) (Or.inl ⟨by rfl, ?_⟩) ?_ ?_; rotate_left
             · intro w'
               go_simp; (with_reducible rfl)
             rotate_left
             · simp only [Act.put, pa3_1, pa3_2, pa3_3, i64_w, i32_w]
               rfl
             refine pure_ (i := 24) (N := some 41) (v := ?_) (a' := ?_) m3_29 rfl rfl (any_of HT_.out (by kernel_rfl)) (fun _ _ _ h => h) (Or.inl ⟨by rfl, ?_⟩) ?_ ?_; rotate_left
             · intro w'
               go_simp; (with_reducible rfl)
             rotate_left
             · simp only [Act.put, pa3_1, pa3_2, pa3_3, i64_w, i32_w]
               rfl
             refine pure_ (i := 25) (N := some 42) (v := ?_) (a' := ?_) m3_30 rfl rfl (any_of HT_.out (by kernel_rfl)) (fun _ _ _ h => h) (Or.inl ⟨by rfl, ?_⟩) ?_ ?_; rotate_left
             · intro w'
               go_simp; (with_reducible rfl)
             rotate_left
             · simp only [Act.put, pa3_1, pa3_2, pa3_3, i64_w, i32_w]
               rfl
             refine pure_ (i := 26) (N := some 43) (v := ?_) (a' := ?_) m3_31 rfl rfl (any_of HT_.out (by kernel_rfl)) (fun _ _ _ h => h) (Or.inl ⟨by rfl, ?_⟩) ?_ ?_; rotate_left
             · intro w'
               go_simp; (with_reducible rfl)
             rotate_left
             · simp only [Act.put, pa3_1, pa3_2, pa3_3, i64_w, i32_w]
               rfl
             refine pure_ (i := 27) (N := some 44) (v := ?_) (a' := ?_) m3_32 rfl rfl (any_of HT_.out (by kernel_rfl)) (fun _ _ _ h => h) (Or.inl ⟨by rfl, ?_⟩) ?_ ?_; rotate_left
             · intro w'
               go_simp; (with_reducible rfl)
             rotate_left
             · simp only [Act.put, pa3_1, pa3_2, pa3_3, i64_w, i32_w]
               rfl
             refine pure_ (i := 28) (N := some 45) (v := ?_) (a' := ?_) m3_33 rfl rfl (any_of HT_.out (by kernel_rfl)) (fun _ _ _ h => h) (Or.inl ⟨by rfl, ?_⟩) ?_ ?_; rotate_left
             · intro w'
               go_simp; (with_reducible rfl)
             rotate_left
             · simp only [Act.put, pa3_1, pa3_2, pa3_3, i64_w, i32_w]
               rfl
             refine pure_ (i := 30) (N := some 47) (v := ?_) (a' := ?_) m3_34 rfl rfl (any_of HT_.out (by kernel_rfl)) (fun _ _ _ h => h) (Or.inl ⟨by rfl, ?_⟩) ?_ ?_; rotate_left
             · intro w'
               go_simp; (with_reducible rfl)
             rotate_left
             · simp only [Act.put, pa3_1, pa3_2, pa3_3, i64_w, i32_w]
               rfl
             refine pure_ (i := 31) (N := some 48) (v := ?_) (a' := ?_) m3_35 rfl rfl (any_of HT_.out (by kernel_rfl)) (fun _ _ _ h => h) (Or.inl ⟨by rfl, ?_⟩) ?_ ?_; rotate_left
             · intro w'
               go_simp; (with_reducible rfl)
             rotate_left
             · simp only [Act.put, pa3_1, pa3_2, pa3_3, i64_w, i32_w]
               rfl
             refine pure_ (i := 32) (N := some 49) (v := ?_) (a' := ?_) m3_36 rfl rfl (any_of HT_.out (by kernel_rfl)) (fun _ _ _ h => h) (Or.inl ⟨by rfl, ?_⟩) ?_ ?_; rotate_left
             · intro w'
               go_simp; (with_reducible rfl)
             rotate_left
             · simp only [Act.put, pa3_1, pa3_2, pa3_3, i64_w, i32_w]
               rfl
             refine pure_ (i := 33) (N := some 50) (v := ?_) (a' := ?_) m3_37 rfl rfl (any_of HT_.out (by kernel_rfl)) (fun _ _ _ h => h) (Or.inl ⟨by rfl, ?_⟩) ?_ ?_; rotate_left
             · intro w'
               go_simp; (with_reducible rfl)
             rotate_left
             · simp only [Act.put, pa3_1, pa3_2, pa3_3, i64_w, i32_w]
               rfl
             refine take_ (i := 29) (N := some 46) (v := ?_) (a' := ?_) m3_42 rfl rfl (take_ofW HT_.out HW_.out (by kernel_rfl)) (fun _ _ _ h => h) (Or.inl ⟨by rfl, ?_⟩) hHeld ?_ ?_; rotate_left
             · rintro w' ⟨s0, s1, s2, s3, s4, s5, s6, s7, s8, s9, s10, s11⟩
               go_simp; (with_reducible rfl)
             rotate_left
             · simp only [Act.put, pa3_1, pa3_2, pa3_3, i64_w, i32_w]
               rfl
             refine take_ (i := 34) (N := some 51) (v := ?_) (a' := ?_) m3_43 rfl rfl (take_ofW HT_.out HW_.out (by kernel_rfl)) (fun _ _ _ h => h) (Or.inl ⟨by rfl, ?_⟩) hHeld ?_ ?_; rotate_left
             · rintro w' ⟨s0, s1, s2, s3, s4, s5, s6, s7, s8, s9, s10, s11⟩
               go_simp; (with_reducible rfl)
             rotate_left
             · simp only [Act.put, pa3_1, pa3_2, pa3_3, i64_w, i32_w]
               rfl
             refine pure_ (i := 35) (N := some 52) (v := ?_) (a' := ?_) m3_44 rfl rfl (any_of HT_.out (by kernel_rfl)) (fun _ _ _ h => h) (Or.inl ⟨by rfl, ?_⟩) ?_ ?_; rotate_left
             · intro w'
               go_simp; (with_reducible rfl)
             rotate_left
             · simp only [Act.put, pa3_1, pa3_2, pa3_3, i64_w, i32_w]
               rfl
             refine pure_ (i := 36) (N := some 53) (v := ?_) (a' := ?_) m3_45 rfl rfl (any_of HT_.out (by kernel_rfl)) (fun _ _ _ h => h) (Or.inl ⟨by rfl, ?_⟩) ?_ ?_; rotate_left
             · intro w'
               go_simp; (with_reducible rfl)
             rotate_left
             · simp only [Act.put, pa3_1, pa3_2, pa3_3, i64_w, i32_w]
               rfl
             refine pure_ (i := 37) (N := some 54) (v := ?_) (a' := ?_) m3_46 rfl rfl (any_of HT_.out (by kernel_rfl)) (fun _ _ _ h => h) (Or.inl ⟨by rfl, ?_⟩) ?_ ?_; rotate_left
             · intro w'
               go_simp; (with_reducible rfl)
             rotate_left
             · simp only [Act.put, pa3_1, pa3_2, pa3_3, i64_w, i32_w]
               rfl
             refine pure_ (i := 38) (N := some 55) (v := ?_) (a' := ?_) m3_47 rfl rfl (any_of HT_.out (by kernel_rfl)) (fun _ _ _ h => h) (Or.inl ⟨by rfl, ?_⟩) ?_ ?_; rotate_left
             · intro w'
               go_simp; (with_reducible rfl)
             rotate_left
             · simp only [Act.put, pa3_1, pa3_2, pa3_3, i64_w, i32_w]
               rfl
             refine pure_ (i := 39) (N := some 56) (v := ?_) (a' := ?_) m3_48 rfl rfl (any_of HT_.out (by kernel_rfl)) (fun _ _ _ h => h) (Or.inl ⟨by rfl, ?_⟩) ?_ ?_; rotate_left
             · intro w'
               go_simp; (with_reducible rfl)
             rotate_left
             · simp only [Act.put, pa3_1, pa3_2, pa3_3, i64_w, i32_w]
               rfl
             refine pure_ (i := 40) (N := some 57) (v := ?_) (a' := ?_) m3_49 rfl rfl (any_of HT_.out (by kernel_rfl)) (fun _ _ _ h => h) (Or.inl ⟨by rfl, ?_⟩) ?_ ?_; rotate_left
             · intro w'
               go_simp; (with_reducible rfl)
             rotate_left
             · simp only [Act.put, pa3_1, pa3_2, pa3_3, i64_w, i32_w]
               rfl
             refine pure_ (i := 41) (N := some 58) (v := ?_) (a' := ?_) m3_50 rfl rfl (any_of HT_.out (by kernel_rfl)) (fun _ _ _ h => h) (Or.inl ⟨by rfl, ?_⟩) ?_ ?_; rotate_left
             · intro w'
               go_simp; (with_reducible rfl)
             rotate_left
             · simp only [Act.put, pa3_1, pa3_2, pa3_3, i64_w, i32_w]
               rfl
             refine pure_ (i := 43) (N := some 60) (v := ?_) (a' := ?_) m3_51 rfl rfl (any_of HT_.out (by kernel_rfl)) (fun _ _ _ h => h) (Or.inl ⟨by rfl, ?_⟩) ?_ ?_; rotate_left
             · intro w'
               go_simp; (with_reducible rfl)
             rotate_left
             · simp only [Act.put, pa3_1, pa3_2, pa3_3, i64_w, i32_w]
               rfl
             refine pure_ (i := 44) (N := some 61) (v := ?_) (a' := ?_) m3_52 rfl rfl (any_of HT_.out (by kernel_rfl)) (fun _ _ _ h => h) (Or.inl ⟨by rfl, ?_⟩) ?_ ?_; rotate_left
             · intro w'
               go_simp; (with_reducible rfl)
             rotate_left
             · simp only [Act.put, pa3_1, pa3_2, pa3_3, i64_w, i32_w]
               rfl
             refine pure_ (i := 45) (N := some 62) (v := ?_) (a' := ?_) m3_53 rfl rfl (any_of HT_.out (by kernel_rfl)) (fun _ _ _ h => h) (Or.inl ⟨by rfl, ?_⟩) ?_ ?_; rotate_left
             · intro w'
               go_simp; (with_reducible rfl)
             rotate_left
             · simp only [Act.put, pa3_1, pa3_2, pa3_3, i64_w, i32_w]
               rfl
             refine pure_ (i := 46) (N := some 63) (v := ?_) (a' := ?_) m3_54 rfl rfl (any_of HT_.out (by kernel_rfl)) (fun _ _ _ h => h) (Or.inl ⟨by rfl, ?_⟩) ?_ ?_; rotate_left
             · intro w'
               go_simp; (with_reducible rfl)
             rotate_left
             · simp only [Act.put, pa3_1, pa3_2, pa3_3, i64_w, i32_w]
               rfl
             refine take_ (i := 42) (N := some 59) (v := ?_) (a' := ?_) m3_59 rfl rfl (take_ofW HT_.out HW_.out (by kernel_rfl)) (fun _ _ _ h => h) (Or.inl ⟨by rfl, ?_⟩) hHeld ?_ ?_; rotate_left
             · rintro w' ⟨s0, s1, s2, s3, s4, s5, s6, s7, s8, s9, s10, s11⟩
               go_simp; (with_reducible rfl)
             rotate_left
             · simp only [Act.put, pa3_1, pa3_2, pa3_3, i64_w, i32_w]
               rfl
             refine take_ (i := 47) (N := some 64) (v := ?_) (a' := ?_) m3_60 rfl rfl (take_ofW HT_.out HW_.out (by kernel_rfl)) (fun _ _ _ h => h) (Or.inl ⟨by rfl, ?_⟩) hHeld ?_ ?_; rotate_left
             · rintro w' ⟨s0, s1, s2, s3, s4, s5, s6, s7, s8, s9, s10, s11⟩
               go_simp; (with_reducible rfl)
             rotate_left
             · simp only [Act.put, pa3_1, pa3_2, pa3_3, i64_w, i32_w]
               rfl
             refine pure_ (i := 48) (N := some 65) (v := ?_) (a' := ?_) m3_61 rfl rfl (any_of HT_.out (by kernel_rfl)) (fun _ _ _ h => h) (Or.inl ⟨by rfl, ?_⟩) ?_ ?_; rotate_left
             · intro w'
               go_simp; (with_reducible rfl)
             rotate_left
             · simp only [Act.put, pa3_1, pa3_2, pa3_3, i64_w, i32_w]
               rfl
             refine pure_ (i := 49) (N := some 66) (v := ?_) (a' := ?_) m3_62 rfl rfl (any_of HT_.out (by kernel_rfl)) (fun _ _ _ h => h) (Or.inl ⟨by rfl, ?_⟩) ?_ ?_; rotate_left
             · intro w'
               go_simp; (with_reducible rfl)
             rotate_left
             · simp only [Act.put, pa3_1, pa3_2, pa3_3, i64_w, i32_w]
               rfl
             refine pure_ (i := 50) (N := some 67) (v := ?_) (a' := ?_) m3_63 rfl rfl (any_of HT_.out (by kernel_rfl)) (fun _ _ _ h => h) (Or.inl ⟨by rfl, ?_⟩) ?_ ?_; rotate_left
             · intro w'
               go_simp; (with_reducible rfl)
             rotate_left
             · simp only [Act.put, pa3_1, pa3_2, pa3_3, i64_w, i32_w]
               rfl
             refine pure_ (i := 51) (N := some 68) (v := undef) (a' := ?_) m3_64 rfl rfl (any_of HT_.out (by kernel_rfl)) (fun _ _ _ h => h) (Or.inr ⟨by rfl, rfl⟩) ?_ ?_; rotate_left
             · simp only [Act.put, pa3_1, pa3_2, pa3_3, i64_w, i32_w]
               rfl
             refine pure_ (i := 52) (N := some 69) (v := undef) (a' := ?_) m3_65 rfl rfl (any_of HT_.out (by kernel_rfl)) (fun _ _ _ h => h) (Or.inr ⟨by rfl, rfl⟩) ?_ ?_; rotate_left
             · simp only [Act.put, pa3_1, pa3_2, pa3_3, i64_w, i32_w]
               rfl
             refine pure_ (i := 53) (N := some 70) (v := undef) (a' := ?_) m3_66 rfl rfl (any_of HT_.out (by kernel_rfl)) (fun _ _ _ h => h) (Or.inr ⟨by rfl, rfl⟩) ?_ ?_; rotate_left
             · simp only [Act.put, pa3_1, pa3_2, pa3_3, i64_w, i32_w]
               rfl
             refine pure_ (i := 54) (N := some 71) (v := undef) (a' := ?_) m3_67 rfl rfl (any_of HT_.out (by kernel_rfl)) (fun _ _ _ h => h) (Or.inr ⟨by rfl, rfl⟩) ?_ ?_; rotate_left
             · simp only [Act.put, pa3_1, pa3_2, pa3_3, i64_w, i32_w]
               rfl
             refine pure_ (i := 55) (N := some 72) (v := undef) (a' := ?_) m3_72 rfl rfl (any_of HT_.out (by kernel_rfl)) (fun _ _ _ h => h) (Or.inr ⟨by rfl, rfl⟩) ?_ ?_; rotate_left
             · simp only [Act.put, pa3_1, pa3_2, pa3_3, i64_w, i32_w]
               rfl
             refine pure_ (i := 56) (N := some 73) (v := undef) (a' := ?_) m3_73 rfl rfl (any_of HT_.out (by kernel_rfl)) (fun _ _ _ h => h) (Or.inr ⟨by rfl, rfl⟩) ?_ ?_; rotate_left
             · simp only [Act.put, pa3_1, pa3_2, pa3_3, i64_w, i32_w]
               rfl
             refine pure_ (i := 57) (N := some 74) (v := undef) (a' := ?_) m3_74 rfl rfl (any_of HT_.out (by kernel_rfl)) (fun _ _ _ h => h) (Or.inr ⟨by rfl, rfl⟩) ?_ ?_; rotate_left
             · simp only [Act.put, pa3_1, pa3_2, pa3_3, i64_w, i32_w]
               rfl
             refine pure_ (i := 58) (N := some 75) (v := undef) (a' := ?_) m3_75 rfl rfl (any_of HT_.out (by kernel_rfl)) (fun _ _ _ h => h) (Or.inr ⟨by rfl, rfl⟩) ?_ ?_; rotate_left
             · simp only [Act.put, pa3_1, pa3_2, pa3_3, i64_w, i32_w]
               rfl
             refine pure_ (i := 59) (N := some 76) (v := undef) (a' := ?_) m3_76 rfl rfl (any_of HT_.out (by kernel_rfl)) (fun _ _ _ h => h) (Or.inr ⟨by rfl, rfl⟩) ?_ ?_; rotate_left
             · simp only [Act.put, pa3_1, pa3_2, pa3_3, i64_w, i32_w]
               rfl
             refine pure_ (i := 60) (N := some 77) (v := undef) (a' := ?_) m3_77 rfl rfl (any_of HT_.out (by kernel_rfl)) (fun _ _ _ h => h) (Or.inr ⟨by rfl, rfl⟩) ?_ ?_; rotate_left
             · simp only [Act.put, pa3_1, pa3_2, pa3_3, i64_w, i32_w]
               rfl
             refine pure_ (i := 61) (N := some 78) (v := undef) (a' := ?_) m3_78 rfl rfl (any_of HT_.out (by kernel_rfl)) (fun _ _ _ h => h) (Or.inr ⟨by rfl, rfl⟩) ?_ ?_; rotate_left
             · simp only [Act.put, pa3_1, pa3_2, pa3_3, i64_w, i32_w]
               rfl
             refine pure_ (i := 62) (N := some 79) (v := ?_) (a' := ?_) m3_79 rfl rfl (any_of HT_.out (by kernel_rfl)) (fun _ _ _ h => h) (Or.inl ⟨by rfl, ?_⟩) ?_ ?_; rotate_left
             · intro w'
               go_simp; (with_reducible rfl)
             rotate_left
             · simp only [Act.put, pa3_1, pa3_2, pa3_3, i64_w, i32_w]
               rfl
             refine pure_ (i := 63) (N := some 80) (v := ?_) (a' := ?_) m3_80 rfl rfl (any_of HT_.out (by kernel_rfl)) (fun _ _ _ h => h) (Or.inl ⟨by rfl, ?_⟩) ?_ ?_; rotate_left
             · intro w'
               go_simp; (with_reducible rfl)
             rotate_left
             · simp only [Act.put, pa3_1, pa3_2, pa3_3, i64_w, i32_w]
               rfl
             refine pure_ (i := 64) (N := some 81) (v := undef) (a' := ?_) m3_81 rfl rfl (any_of HT_.out (by kernel_rfl)) (fun _ _ _ h => h) (Or.inr ⟨by rfl, rfl⟩) ?_ ?_; rotate_left
             · simp only [Act.put, pa3_1, pa3_2, pa3_3, i64_w, i32_w]
               rfl
             refine pure_ (i := 65) (N := some 82) (v := undef) (a' := ?_) m3_82 rfl rfl (any_of HT_.out (by kernel_rfl)) (fun _ _ _ h => h) (Or.inr ⟨by rfl, rfl⟩) ?_ ?_; rotate_left
             · simp only [Act.put, pa3_1, pa3_2, pa3_3, i64_w, i32_w]
               rfl
             refine pure_ (i := 66) (N := some 83) (v := undef) (a' := ?_) m3_83 rfl rfl (any_of HT_.out (by kernel_rfl)) (fun _ _ _ h => h) (Or.inr ⟨by rfl, rfl⟩) ?_ ?_; rotate_left
             · simp only [Act.put, pa3_1, pa3_2, pa3_3, i64_w, i32_w]
               rfl
             refine pure_ (i := 67) (N := some 84) (v := undef) (a' := ?_) m3_84 rfl rfl (any_of HT_.out (by kernel_rfl)) (fun _ _ _ h => h) (Or.inr ⟨by rfl, rfl⟩) ?_ ?_; rotate_left
             · simp only [Act.put, pa3_1, pa3_2, pa3_3, i64_w, i32_w]
               rfl
             refine pure_ (i := 68) (N := some 85) (v := undef) (a' := ?_) m3_89 rfl rfl (any_of HT_.out (by kernel_rfl)) (fun _ _ _ h => h) (Or.inr ⟨by rfl, rfl⟩) ?_ ?_; rotate_left
             · simp only [Act.put, pa3_1, pa3_2, pa3_3, i64_w, i32_w]
               rfl
             refine pure_ (i := 69) (N := some 86) (v := undef) (a' := ?_) m3_90 rfl rfl (any_of HT_.out (by kernel_rfl)) (fun _ _ _ h => h) (Or.inr ⟨by rfl, rfl⟩) ?_ ?_; rotate_left
             · simp only [Act.put, pa3_1, pa3_2, pa3_3, i64_w, i32_w]
               rfl
             refine pure_ (i := 70) (N := some 87) (v := undef) (a' := ?_) m3_91 rfl rfl (any_of HT_.out (by kernel_rfl)) (fun _ _ _ h => h) (Or.inr ⟨by rfl, rfl⟩) ?_ ?_; rotate_left
             · simp only [Act.put, pa3_1, pa3_2, pa3_3, i64_w, i32_w]
               rfl
             refine pure_ (i := 71) (N := some 88) (v := undef) (a' := ?_) m3_92 rfl rfl (any_of HT_.out (by kernel_rfl)) (fun _ _ _ h => h) (Or.inr ⟨by rfl, rfl⟩) ?_ ?_; rotate_left
             · simp only [Act.put, pa3_1, pa3_2, pa3_3, i64_w, i32_w]
               rfl
             refine pure_ (i := 72) (N := some 89) (v := undef) (a' := ?_) m3_93 rfl rfl (any_of HT_.out (by kernel_rfl)) (fun _ _ _ h => h) (Or.inr ⟨by rfl, rfl⟩) ?_ ?_; rotate_left
             · simp only [Act.put, pa3_1, pa3_2, pa3_3, i64_w, i32_w]
               rfl
             refine pure_ (i := 73) (N := some 90) (v := undef) (a' := ?_) m3_94 rfl rfl (any_of HT_.out (by kernel_rfl)) (fun _ _ _ h => h) (Or.inr ⟨by rfl, rfl⟩) ?_ ?_; rotate_left
             · simp only [Act.put, pa3_1, pa3_2, pa3_3, i64_w, i32_w]
               rfl
             refine pure_ (i := 74) (N := some 91) (v := undef) (a' := ?_) m3_95 rfl rfl (any_of HT_.out (by kernel_rfl)) (fun _ _ _ h => h) (Or.inr ⟨by rfl, rfl⟩) ?_ ?_; rotate_left
             · simp only [Act.put, pa3_1, pa3_2, pa3_3, i64_w, i32_w]
               rfl
             refine pure_ (i := 75) (N := some 92) (v := undef) (a' := ?_) m3_96 rfl rfl (any_of HT_.out (by kernel_rfl)) (fun _ _ _ h => h) (Or.inr ⟨by rfl, rfl⟩) ?_ ?_; rotate_left
             · simp only [Act.put, pa3_1, pa3_2, pa3_3, i64_w, i32_w]
               rfl
             refine pure_ (i := 76) (N := some 93) (v := ?_) (a' := ?_) m3_97 rfl rfl (any_of HT_.out (by kernel_rfl)) (fun _ _ _ h => h) (Or.inl ⟨by rfl, ?_⟩) ?_ ?_; rotate_left
             · intro w'
               go_simp; (with_reducible rfl)
             rotate_left
             · simp only [Act.put, pa3_1, pa3_2, pa3_3, i64_w, i32_w]
               rfl
             refine done_ (done_of HT_.out (by kernel_rfl)) ?_
             try go_wp2
             go_meet
             case rel => exact ⟨_, (true), d3_2, H', ⟨by have := HK1.out; first | omega | exact Nat.le_refl _⟩, ⟨c3_1⟩⟩
           ·rw [if_neg c10] at H
            have c10b0 : (((rd_T34 l0 x5_1).f2) == ((rd_T34 l1 x5_1).f2)) = false := beq_eq_false_iff_ne.mpr c10; have c10b1 : (((rd_T34 l0 x5_1).f2) != ((rd_T34 l1 x5_1).f2)) = true := bne_iff_ne.mpr c10; have H' := ak H; clear H
            try go_wp2
            have n0_ := ak (below_drew1 HB.out); clear HB; have HB := n0_; clear n0_; have p110 : 0 ≤ (x5_1 : Int) := of_decide_eq_true d3_1; have q110 : x5_1 < (l0.length : Int) := of_decide_eq_true d3_1; obtain ⟨ad110, A110_5, c110_5, e110, hx110_0, hx110_1, hx110_2, hx110_3, hx110_4, hx110_5, hl110_5, hi110_5⟩ := at_T34 HR0.out x5_1 p110 q110; have hw110_5 := hx110_5; have hw110_4 := hx110_4; have hw110_3 := hx110_3; have hw110_2 := hx110_2; have hw110_1 := hx110_1; have hw110_0 := hx110_0
            cases e110
            replace hx110_0 := (HB.out.cell (World.block_lt_of_cell? w _ hx110_0)).trans hx110_0; replace hx110_1 := (HB.out.cell (World.block_lt_of_cell? w _ hx110_1)).trans hx110_1; replace hx110_2 := (HB.out.cell (World.block_lt_of_cell? w _ hx110_2)).trans hx110_2; replace hx110_3 := (HB.out.cell (World.block_lt_of_cell? w _ hx110_3)).trans hx110_3; replace hx110_4 := (HB.out.cell (World.block_lt_of_cell? w _ hx110_4)).trans hx110_4; replace hx110_5 := (HB.out.cell (World.block_lt_of_cell? w _ hx110_5)).trans hx110_5; have HR110_5 := ak hi110_5; have HC110_5 := ak hl110_5; clear hi110_5 hl110_5; replace p110 := eq_true p110; replace q110 := eq_true q110; have p111 : 0 ≤ (x5_1 : Int) := of_decide_eq_true d3_1; have q111 : x5_1 < (l1.length : Int) := of_decide_eq_true d3_1; obtain ⟨ad111, A111_5, c111_5, e111, hx111_0, hx111_1, hx111_2, hx111_3, hx111_4, hx111_5, hl111_5, hi111_5⟩ := at_T34 HR1.out x5_1 p111 q111; have hw111_5 := hx111_5; have hw111_4 := hx111_4; have hw111_3 := hx111_3; have hw111_2 := hx111_2; have hw111_1 := hx111_1; have hw111_0 := hx111_0
            cases e111
            replace hx111_0 := (HB.out.cell (World.block_lt_of_cell? w _ hx111_0)).trans hx111_0; replace hx111_1 := (HB.out.cell (World.block_lt_of_cell? w _ hx111_1)).trans hx111_1; replace hx111_2 := (HB.out.cell (World.block_lt_of_cell? w _ hx111_2)).trans hx111_2; replace hx111_3 := (HB.out.cell (World.block_lt_of_cell? w _ hx111_3)).trans hx111_3; replace hx111_4 := (HB.out.cell (World.block_lt_of_cell? w _ hx111_4)).trans hx111_4; replace hx111_5 := (HB.out.cell (World.block_lt_of_cell? w _ hx111_5)).trans hx111_5; have HR111_5 := ak hi111_5; have HC111_5 := ak hl111_5; clear hi111_5 hl111_5; replace p111 := eq_true p111; replace q111 := eq_true q111; have p112 : 0 ≤ (x5_1 : Int) := of_decide_eq_true d3_1; have q112 : x5_1 < (l0.length : Int) := of_decide_eq_true d3_1; obtain ⟨ad112, A112_5, c112_5, e112, hx112_0, hx112_1, hx112_2, hx112_3, hx112_4, hx112_5, hl112_5, hi112_5⟩ := at_T34 HR0.out x5_1 p112 q112; have hw112_5 := hx112_5; have hw112_4 := hx112_4; have hw112_3 := hx112_3; have hw112_2 := hx112_2; have hw112_1 := hx112_1; have hw112_0 := hx112_0; obtain rfl : ad110 = ad112 := (by injection e112); replace hx112_0 := (HB.out.cell (World.block_lt_of_cell? w _ hx112_0)).trans hx112_0; replace hx112_1 := (HB.out.cell (World.block_lt_of_cell? w _ hx112_1)).trans hx112_1; replace hx112_2 := (HB.out.cell (World.block_lt_of_cell? w _ hx112_2)).trans hx112_2; replace hx112_3 := (HB.out.cell (World.block_lt_of_cell? w _ hx112_3)).trans hx112_3
            replace hx112_4 := (HB.out.cell (World.block_lt_of_cell? w _ hx112_4)).trans hx112_4; replace hx112_5 := (HB.out.cell (World.block_lt_of_cell? w _ hx112_5)).trans hx112_5; have HR112_5 := ak hi112_5; have HC112_5 := ak hl112_5; clear hi112_5 hl112_5; replace p112 := eq_true p112; replace q112 := eq_true q112; have ea_ := Option.some.inj (hx110_5.symm.trans hx112_5); injection ea_ with ea_ en_ ec_; subst ea_; subst ec_; clear en_; have p113 : 0 ≤ (x5_1 : Int) := of_decide_eq_true d3_1; have q113 : x5_1 < (l1.length : Int) := of_decide_eq_true d3_1; obtain ⟨ad113, A113_5, c113_5, e113, hx113_0, hx113_1, hx113_2, hx113_3, hx113_4, hx113_5, hl113_5, hi113_5⟩ := at_T34 HR1.out x5_1 p113 q113; have hw113_5 := hx113_5; have hw113_4 := hx113_4; have hw113_3 := hx113_3; have hw113_2 := hx113_2; have hw113_1 := hx113_1; have hw113_0 := hx113_0; obtain rfl : ad111 = ad113 := (by injection e113); replace hx113_0 := (HB.out.cell (World.block_lt_of_cell? w _ hx113_0)).trans hx113_0; replace hx113_1 := (HB.out.cell (World.block_lt_of_cell? w _ hx113_1)).trans hx113_1; replace hx113_2 := (HB.out.cell (World.block_lt_of_cell? w _ hx113_2)).trans hx113_2; replace hx113_3 := (HB.out.cell (World.block_lt_of_cell? w _ hx113_3)).trans hx113_3; replace hx113_4 := (HB.out.cell (World.block_lt_of_cell? w _ hx113_4)).trans hx113_4; replace hx113_5 := (HB.out.cell (World.block_lt_of_cell? w _ hx113_5)).trans hx113_5; have HR113_5 := ak hi113_5; have HC113_5 := ak hl113_5
            clear hi113_5 hl113_5; replace p113 := eq_true p113; replace q113 := eq_true q113; have ea_ := Option.some.inj (hx111_5.symm.trans hx113_5); injection ea_ with ea_ en_ ec_; subst ea_; subst ec_; clear en_; have p114 : 0 ≤ (x5_1 : Int) := of_decide_eq_true d3_1; have q114 : x5_1 < (l0.length : Int) := of_decide_eq_true d3_1; obtain ⟨ad114, A114_5, c114_5, e114, hx114_0, hx114_1, hx114_2, hx114_3, hx114_4, hx114_5, hl114_5, hi114_5⟩ := at_T34 HR0.out x5_1 p114 q114; have hw114_5 := hx114_5; have hw114_4 := hx114_4; have hw114_3 := hx114_3; have hw114_2 := hx114_2; have hw114_1 := hx114_1; have hw114_0 := hx114_0; obtain rfl : ad110 = ad114 := (by injection e114); replace hx114_0 := (HB.out.cell (World.block_lt_of_cell? w _ hx114_0)).trans hx114_0; replace hx114_1 := (HB.out.cell (World.block_lt_of_cell? w _ hx114_1)).trans hx114_1; replace hx114_2 := (HB.out.cell (World.block_lt_of_cell? w _ hx114_2)).trans hx114_2; replace hx114_3 := (HB.out.cell (World.block_lt_of_cell? w _ hx114_3)).trans hx114_3; replace hx114_4 := (HB.out.cell (World.block_lt_of_cell? w _ hx114_4)).trans hx114_4; replace hx114_5 := (HB.out.cell (World.block_lt_of_cell? w _ hx114_5)).trans hx114_5; have HR114_5 := ak hi114_5; have HC114_5 := ak hl114_5; clear hi114_5 hl114_5; replace p114 := eq_true p114; replace q114 := eq_true q114; have ea_ := Option.some.inj (hx110_5.symm.trans hx114_5); injection ea_ with ea_ en_ ec_; subst ea_; subst ec_; clear en_
            have p115 : 0 ≤ (x5_1 : Int) := of_decide_eq_true d3_1; have q115 : x5_1 < (l1.length : Int) := of_decide_eq_true d3_1; obtain ⟨ad115, A115_5, c115_5, e115, hx115_0, hx115_1, hx115_2, hx115_3, hx115_4, hx115_5, hl115_5, hi115_5⟩ := at_T34 HR1.out x5_1 p115 q115; have hw115_5 := hx115_5; have hw115_4 := hx115_4; have hw115_3 := hx115_3; have hw115_2 := hx115_2; have hw115_1 := hx115_1; have hw115_0 := hx115_0; obtain rfl : ad111 = ad115 := (by injection e115); replace hx115_0 := (HB.out.cell (World.block_lt_of_cell? w _ hx115_0)).trans hx115_0; replace hx115_1 := (HB.out.cell (World.block_lt_of_cell? w _ hx115_1)).trans hx115_1; replace hx115_2 := (HB.out.cell (World.block_lt_of_cell? w _ hx115_2)).trans hx115_2; replace hx115_3 := (HB.out.cell (World.block_lt_of_cell? w _ hx115_3)).trans hx115_3; replace hx115_4 := (HB.out.cell (World.block_lt_of_cell? w _ hx115_4)).trans hx115_4; replace hx115_5 := (HB.out.cell (World.block_lt_of_cell? w _ hx115_5)).trans hx115_5; have HR115_5 := ak hi115_5; have HC115_5 := ak hl115_5; clear hi115_5 hl115_5; replace p115 := eq_true p115; replace q115 := eq_true q115; have ea_ := Option.some.inj (hx111_5.symm.trans hx115_5); injection ea_ with ea_ en_ ec_; subst ea_; subst ec_; clear en_; clear hx113_5 hx114_0 hx114_1 hx114_2 hx114_3 hx114_4 hx114_5 hx115_0 hx115_1 hx115_2 hx115_3 hx115_4 hx115_5
            refine start_ (n := 77) (S := fun w' => w'.cell? (ad110.add ((x5_1).toNat * 6)) = some (.int .i64 ((rd_T34 l0 x5_1).f0)) ∧ w'.cell? ⟨(ad110.add ((x5_1).toNat * 6)).block, (ad110.add ((x5_1).toNat * 6)).off + 1, none⟩ = some (.int .i64 ((rd_T34 l0 x5_1).f1)) ∧ w'.cell? ⟨(ad110.add ((x5_1).toNat * 6)).block, (ad110.add ((x5_1).toNat * 6)).off + 2, none⟩ = some (.int .i64 ((rd_T34 l0 x5_1).f2)) ∧ w'.cell? ⟨(ad110.add ((x5_1).toNat * 6)).block, (ad110.add ((x5_1).toNat * 6)).off + 3, none⟩ = some (.int .i64 ((rd_T34 l0 x5_1).f3)) ∧ w'.cell? ⟨(ad110.add ((x5_1).toNat * 6)).block, (ad110.add ((x5_1).toNat * 6)).off + 4, none⟩ = some (.string ((rd_T34 l0 x5_1).f4)) ∧ w'.cell? ⟨(ad110.add ((x5_1).toNat * 6)).block, (ad110.add ((x5_1).toNat * 6)).off + 5, none⟩ = some (.slice A110_5 ((rd_T34 l0 x5_1).f5).length c110_5) ∧ w'.cell? (ad111.add ((x5_1).toNat * 6)) = some (.int .i64 ((rd_T34 l1 x5_1).f0)) ∧ w'.cell? ⟨(ad111.add ((x5_1).toNat * 6)).block, (ad111.add ((x5_1).toNat * 6)).off + 1, none⟩ = some (.int .i64 ((rd_T34 l1 x5_1).f1)) ∧ w'.cell? ⟨(ad111.add ((x5_1).toNat * 6)).block, (ad111.add ((x5_1).toNat * 6)).off + 2, none⟩ = some (.int .i64 ((rd_T34 l1 x5_1).f2)) ∧ w'.cell? ⟨(ad111.add ((x5_1).toNat * 6)).block, (ad111.add ((x5_1).toNat * 6)).off + 3, none⟩ = some (.int .i64 ((rd_T34 l1 x5_1).f3)) ∧ w'.cell? ⟨(ad111.add ((x5_1).toNat * 6)).block, (ad111.add ((x5_1).toNat * 6)).off + 4, none⟩ = some (.string ((rd_T34 l1 x5_1).f4)) ∧ w'.cell? ⟨(ad111.add ((x5_1).toNat * 6)).block, (ad111.add ((x5_1).toNat * 6)).off + 5, none⟩ = some (.slice A111_5 ((rd_T34 l1 x5_1).f5).length c111_5)) (ds := []) m3_0 (by kernel_rfl) rfl rfl ⟨((HB.out.cell (World.block_lt_of_cell? w _ hw110_0)).trans hw110_0), ((HB.out.cell (World.block_lt_of_cell? w _ hw110_1)).trans hw110_1), ((HB.out.cell (World.block_lt_of_cell? w _ hw110_2)).trans hw110_2), ((HB.out.cell (World.block_lt_of_cell? w _ hw110_3)).trans hw110_3), ((HB.out.cell (World.block_lt_of_cell? w _ hw110_4)).trans hw110_4), ((HB.out.cell (World.block_lt_of_cell? w _ hw110_5)).trans hw110_5), ((HB.out.cell (World.block_lt_of_cell? w _ hw111_0)).trans hw111_0), ((HB.out.cell (World.block_lt_of_cell? w _ hw111_1)).trans hw111_1), ((HB.out.cell (World.block_lt_of_cell? w _ hw111_2)).trans hw111_2), ((HB.out.cell (World.block_lt_of_cell? w _ hw111_3)).trans hw111_3), ((HB.out.cell (World.block_lt_of_cell? w _ hw111_4)).trans hw111_4), ((HB.out.cell (World.block_lt_of_cell? w _ hw111_5)).trans hw111_5)⟩ (fun hHeld => ?_); refine with_tabW spec_SameCores.tab6 spec_SameCores.bits6 (fun HT_ HW_ => ?_)
            generalize wr.drew = w17 at HB HR110_5 HR111_5 HR112_5 HR113_5 HR114_5 HR115_5 hx110_0 hx110_1 hx110_2 hx110_3 hx110_4 hx110_5 hx111_0 hx111_1 hx111_2 hx111_3 hx111_4 hx111_5 hx112_0 hx112_1 hx112_2 hx112_3 hx112_4 hx112_5 hx113_0 hx113_1 hx113_2 hx113_3 hx113_4 hHeld ⊢; refine pure_ (i := 0) (N := some 17) (v := ?_) (a' := ?_) m3_1 rfl rfl (any_of HT_.out (by kernel_rfl)) (fun _ _ _ h => h) (Or.inl ⟨by rfl, ?_⟩) ?_ ?_; rotate_left
            · intro w'
              go_simp; (with_reducible rfl)
            rotate_left
            · simp only [Act.put, pa3_1, pa3_2, pa3_3, i64_w, i32_w]
              rfl
            refine pure_ (i := 1) (N := some 18) (v := ?_) (a' := ?_) m3_2 rfl rfl (any_of HT_.out (by kernel_rfl)) (fun _ _ _ h => h) (Or.inl ⟨by rfl, ?_⟩) ?_ ?_; rotate_left
            · intro w'
              go_simp; (with_reducible rfl)
            rotate_left
            · simp only [Act.put, pa3_1, pa3_2, pa3_3, i64_w, i32_w]
              rfl
            refine pure_ (i := 2) (N := some 19) (v := ?_) (a' := ?_) m3_3 rfl rfl (any_of HT_.out (by kernel_rfl)) (fun _ _ _ h => h) (Or.inl ⟨by rfl, ?_⟩) ?_ ?_; rotate_left
            · intro w'
              go_simp; (with_reducible rfl)
            rotate_left
            · simp only [Act.put, pa3_1, pa3_2, pa3_3, i64_w, i32_w]
              rfl
            refine pure_ (i := 3) (N := some 20) (v := ?_) (a' := ?_) m3_4 rfl rfl (any_of HT_.out (by kernel_rfl)) (fun _ _ _ h => h) (Or.inl ⟨by rfl, ?_⟩) ?_ ?_; rotate_left
            · intro w'
              go_simp; (with_reducible rfl)
            rotate_left
            · simp only [Act.put, pa3_1, pa3_2, pa3_3, i64_w, i32_w]
              rfl
            refine pure_ (i := 5) (N := some 22) (v := ?_) (a' := ?_) m3_5 rfl rfl (any_of HT_.out (by kernel_rfl)) (fun _ _ _ h => h) (Or.inl ⟨by rfl, ?_⟩) ?_ ?_; rotate_left
            · intro w'
              go_simp; (with_reducible rfl)
            rotate_left
            · simp only [Act.put, pa3_1, pa3_2, pa3_3, i64_w, i32_w]
              rfl
            refine pure_ (i := 6) (N := some 23) (v := ?_) (a' := ?_) m3_6 rfl rfl (any_of HT_.out (by kernel_rfl)) (fun _ _ _ h => h) (Or.inl ⟨by rfl, ?_⟩) ?_ ?_; rotate_left
            · intro w'
              go_simp; (with_reducible rfl)
            rotate_left
            · simp only [Act.put, pa3_1, pa3_2, pa3_3, i64_w, i32_w]
              rfl
            refine pure_ (i := 7) (N := some 24) (v := ?_) (a' := ?_) m3_7 rfl rfl (any_of HT_.out (by kernel_rfl)) (fun _ _ _ h => h) (Or.inl ⟨by rfl, ?_⟩) ?_ ?_; rotate_left
            · intro w'
              go_simp; (with_reducible rfl)
            rotate_left
            · simp only [Act.put, pa3_1, pa3_2, pa3_3, i64_w, i32_w]
              rfl
            refine pure_ (i := 8) (N := some 25) (v := ?_) (a' := ?_) m3_8 rfl rfl (any_of HT_.out (by kernel_rfl)) (fun _ _ _ h => h) (Or.inl ⟨by rfl, ?_⟩) ?_ ?_; rotate_left
            · intro w'
              go_simp; (with_reducible rfl)
            rotate_left
            · simp only [Act.put, pa3_1, pa3_2, pa3_3, i64_w, i32_w]
              rfl
            refine take_ (i := 4) (N := some 21) (v := ?_) (a' := ?_) m3_9 rfl rfl (take_ofW HT_.out HW_.out (by kernel_rfl)) (fun _ _ _ h => h) (Or.inl ⟨by rfl, ?_⟩) hHeld ?_ ?_; rotate_left
            · rintro w' ⟨s0, s1, s2, s3, s4, s5, s6, s7, s8, s9, s10, s11⟩
              go_simp; (with_reducible rfl)
            rotate_left
            · simp only [Act.put, pa3_1, pa3_2, pa3_3, i64_w, i32_w]
              rfl
            refine take_ (i := 9) (N := some 26) (v := ?_) (a' := ?_) m3_10 rfl rfl (take_ofW HT_.out HW_.out (by kernel_rfl)) (fun _ _ _ h => h) (Or.inl ⟨by rfl, ?_⟩) hHeld ?_ ?_; rotate_left
            · rintro w' ⟨s0, s1, s2, s3, s4, s5, s6, s7, s8, s9, s10, s11⟩
              go_simp; (with_reducible rfl)
            rotate_left
            · simp only [Act.put, pa3_1, pa3_2, pa3_3, i64_w, i32_w]
              rfl
            refine pure_ (i := 10) (N := some 27) (v := ?_) (a' := ?_) m3_11 rfl rfl (any_of HT_.out (by kernel_rfl)) (fun _ _ _ h => h) (Or.inl ⟨by rfl, ?_⟩) ?_ ?_; rotate_left
            · intro w'
              go_simp; (with_reducible rfl)
            rotate_left
            · simp only [Act.put, pa3_1, pa3_2, pa3_3, i64_w, i32_w]
              rfl
            refine pure_ (i := 11) (N := some 28) (v := ?_) (a' := ?_) m3_12 rfl rfl (any_of HT_.out (by kernel_rfl)) (fun _ _ _ h => h) (Or.inl ⟨by rfl, ?_⟩) ?_ ?_; rotate_left
            · intro w'
              go_simp; (with_reducible rfl)
            rotate_left
            · simp only [Act.put, pa3_1, pa3_2, pa3_3, i64_w, i32_w]
              rfl
            refine pure_ (i := 12) (N := some 29) (v := ?_) (a' := ?_) m3_13 rfl rfl (any_of HT_.out (by kernel_rfl)) (fun _ _ _ h => h) (Or.inl ⟨by rfl, ?_⟩) ?_ ?_; rotate_left
            · intro w'
              go_simp; (with_reducible rfl)
            rotate_left
            · simp only [Act.put, pa3_1, pa3_2, pa3_3, i64_w, i32_w]
              rfl
            refine pure_ (i := 13) (N := some 30) (v := ?_) (a' := ?_) m3_14 rfl rfl (any_of HT_.out (by kernel_rfl)) (fun _ _ _ h => h) (Or.inl ⟨by rfl, ?_⟩) ?_ ?_; rotate_left
            · intro w'
              go_simp; (with_reducible rfl)
            rotate_left
            · simp only [Act.put, pa3_1, pa3_2, pa3_3, i64_w, i32_w]
              rfl
            refine pure_ (i := 14) (N := some 31) (v := ?_) (a' := ?_) m3_15 rfl rfl (any_of HT_.out (by kernel_rfl)) (fun _ _ _ h => h) (Or.inl ⟨by rfl, ?_⟩) ?_ ?_; rotate_left
            · intro w'
              go_simp; (with_reducible rfl)
            rotate_left
            · simp only [Act.put, pa3_1, pa3_2, pa3_3, i64_w, i32_w]
              rfl
            refine pure_ (i := 15) (N := some 32) (v := ?_) (a' := ?_) m3_16 rfl rfl (any_of HT_.out (by kernel_rfl)) (fun _ _ _ h => h) (Or.inl ⟨by rfl, ?_⟩) ?_ ?_; rotate_left
            · intro w'
              go_simp; (with_reducible rfl)
            rotate_left
            · simp only [Act.put, pa3_1, pa3_2, pa3_3, i64_w, i32_w]
              rfl
            refine pure_ (i := 17) (N := some 34) (v := ?_) (a' := ?_) m3_17 rfl rfl (any_of HT_.out (by kernel_rfl)) (fun _ _ _ h => h) (Or.inl ⟨by rfl, ?_⟩) ?_ ?_; rotate_left
            · intro w'
              go_simp; (with_reducible rfl)
            rotate_left
            · simp only [Act.put, pa3_1, pa3_2, pa3_3, i64_w, i32_w]
              rfl
            refine pure_ (i := 18) (N := some 35) (v := ?_) (a' := ?_) m3_18 rfl rfl (any_of HT_.out (by kernel_rfl)) (fun _ _ _ h => h) (Or.inl ⟨by rfl, ?_⟩) ?_ ?_; rotate_left
            · intro w'
              go_simp; (with_reducible rfl)
            rotate_left
            · simp only [Act.put, pa3_1, pa3_2, pa3_3, i64_w, i32_w]
              rfl
            refine pure_ (i := 19) (N := some 36) (v := ?_) (a' := ?_) m3_19 rfl rfl (any_of HT_.out (by kernel_rfl)) (fun _ _ _ h => h) (Or.inl ⟨by rfl, ?_⟩) ?_ ?_; rotate_left
            · intro w'
              go_simp; (with_reducible rfl)
            rotate_left
            · simp only [Act.put, pa3_1, pa3_2, pa3_3, i64_w, i32_w]
              rfl
            refine pure_ (i := 20) (N := some 37) (v := ?_) (a' := ?_) m3_20 rfl rfl (any_of HT_.out (by kernel_rfl)) (fun _ _ _ h => h) (Or.inl ⟨by rfl, ?_⟩) ?_ ?_; rotate_left
            · intro w'
              go_simp; (with_reducible rfl)
            rotate_left
            · simp only [Act.put, pa3_1, pa3_2, pa3_3, i64_w, i32_w]
              rfl
            refine take_ (i := 16) (N := some 33) (v := ?_) (a' := ?_) m3_25 rfl rfl (take_ofW HT_.out HW_.out (by kernel_rfl)) (fun _ _ _ h => h) (Or.inl ⟨by rfl, ?_⟩) hHeld ?_ ?_; rotate_left
            · rintro w' ⟨s0, s1, s2, s3, s4, s5, s6, s7, s8, s9, s10, s11⟩
              go_simp; (with_reducible rfl)
            rotate_left
            · simp only [Act.put, pa3_1, pa3_2, pa3_3, i64_w, i32_w]
              rfl
            refine take_ (i := 21) (N := some 38) (v := ?_) (a' := ?_) m3_26 rfl rfl (take_ofW HT_.out HW_.out (by kernel_rfl)) (fun _ _ _ h => h) (Or.inl ⟨by rfl, ?_⟩) hHeld ?_ ?_; rotate_left
            · rintro w' ⟨s0, s1, s2, s3, s4, s5, s6, s7, s8, s9, s10, s11⟩
              go_simp; (with_reducible rfl)
            rotate_left
            · simp only [Act.put, pa3_1, pa3_2, pa3_3, i64_w, i32_w]
              rfl
            refine pure_ (i := 22) (N := some 39) (v := ?_) (a' := ?_) m3_27 rfl rfl (any_of HT_.out (by kernel_rfl)) (fun _ _ _ h => h) (Or.inl ⟨by rfl, ?_⟩) ?_ ?_; rotate_left
            · intro w'
              go_simp; (with_reducible rfl)
            rotate_left
            · simp only [Act.put, pa3_1, pa3_2, pa3_3, i64_w, i32_w]
              rfl
            refine pure_ (i := 23) (N := some 40) (v := ?_) (a' := ?_) m3_28 rfl rfl (any_of HT_.out (by kernel_rfl)) (fun _ _ _ h => h) (Or.inl ⟨by rfl, ?_⟩) ?_ ?_; rotate_left
            · intro w'
              go_simp; (with_reducible rfl)
            rotate_left
            · simp only [Act.put, pa3_1, pa3_2, pa3_3, i64_w, i32_w]
              rfl
            refine pure_ (i := 24) (N := some 41) (v := ?_) (a' := ?_) m3_29 rfl rfl (any_of HT_.out (by kernel_rfl)) (fun _ _ _ h => h) (Or.inl ⟨by rfl, ?_⟩) ?_ ?_; rotate_left
            · intro w'
              go_simp; (with_reducible rfl)
            rotate_left
            · simp only [Act.put, pa3_1, pa3_2, pa3_3, i64_w, i32_w]
              rfl
            refine pure_ (i := 25) (N := some 42) (v := ?_) (a' := ?_) m3_30 rfl rfl (any_of HT_.out (by kernel_rfl)) (fun _ _ _ h => h) (Or.inl ⟨by rfl, ?_⟩) ?_ ?_; rotate_left
            · intro w'
              go_simp; (with_reducible rfl)
            rotate_left
            · simp only [Act.put, pa3_1, pa3_2, pa3_3, i64_w, i32_w]
              rfl
            refine pure_ (i := 26) (N := some 43) (v := ?_) (a' := ?_) m3_31 rfl rfl (any_of HT_.out (by kernel_rfl)) (fun _ _ _ h => h) (Or.inl ⟨by rfl, ?_⟩) ?_ ?_; rotate_left
            · intro w'
              go_simp; (with_reducible rfl)
            rotate_left
            · simp only [Act.put, pa3_1, pa3_2, pa3_3, i64_w, i32_w]
              rfl
            refine pure_ (i := 27) (N := some 44) (v := ?_) (a' := ?_) m3_32 rfl rfl (any_of HT_.out (by kernel_rfl)) (fun _ _ _ h => h) (Or.inl ⟨by rfl, ?_⟩) ?_ ?_; rotate_left
            · intro w'
              go_simp; (with_reducible rfl)
            rotate_left
            · simp only [Act.put, pa3_1, pa3_2, pa3_3, i64_w, i32_w]
              rfl
            refine pure_ (i := 28) (N := some 45) (v := ?_) (a' := ?_) m3_33 rfl rfl (any_of HT_.out (by kernel_rfl)) (fun _ _ _ h => h) (Or.inl ⟨by rfl, ?_⟩) ?_ ?_; rotate_left
            · intro w'
              go_simp; (with_reducible rfl)
            rotate_left
            · simp only [Act.put, pa3_1, pa3_2, pa3_3, i64_w, i32_w]
              rfl
            refine pure_ (i := 30) (N := some 47) (v := ?_) (a' := ?_) m3_34 rfl rfl (any_of HT_.out (by kernel_rfl)) (fun _ _ _ h => h) (Or.inl ⟨by rfl, ?_⟩) ?_ ?_; rotate_left
            · intro w'
              go_simp; (with_reducible rfl)
            rotate_left
            · simp only [Act.put, pa3_1, pa3_2, pa3_3, i64_w, i32_w]
              rfl
            refine pure_ (i := 31) (N := some 48) (v := ?_) (a' := ?_) m3_35 rfl rfl (any_of HT_.out (by kernel_rfl)) (fun _ _ _ h => h) (Or.inl ⟨by rfl, ?_⟩) ?_ ?_; rotate_left
            · intro w'
              go_simp; (with_reducible rfl)
            rotate_left
            · simp only [Act.put, pa3_1, pa3_2, pa3_3, i64_w, i32_w]
              rfl
            refine pure_ (i := 32) (N := some 49) (v := ?_) (a' := ?_) m3_36 rfl rfl (any_of HT_.out (by kernel_rfl)) (fun _ _ _ h => h) (Or.inl ⟨by rfl, ?_⟩) ?_ ?_; rotate_left
            · intro w'
              go_simp; (with_reducible rfl)
            rotate_left
            · simp only [Act.put, pa3_1, pa3_2, pa3_3, i64_w, i32_w]
              rfl
            refine pure_ (i := 33) (N := some 50) (v := ?_) (a' := ?_) m3_37 rfl rfl (any_of HT_.out (by kernel_rfl)) (fun _ _ _ h => h) (Or.inl ⟨by rfl, ?_⟩) ?_ ?_; rotate_left
            · intro w'
              go_simp; (with_reducible rfl)
            rotate_left
            · simp only [Act.put, pa3_1, pa3_2, pa3_3, i64_w, i32_w]
              rfl
            refine take_ (i := 29) (N := some 46) (v := ?_) (a' := ?_) m3_42 rfl rfl (take_ofW HT_.out HW_.out (by kernel_rfl)) (fun _ _ _ h => h) (Or.inl ⟨by rfl, ?_⟩) hHeld ?_ ?_; rotate_left
            · rintro w' ⟨s0, s1, s2, s3, s4, s5, s6, s7, s8, s9, s10, s11⟩
              go_simp; (with_reducible rfl)
            rotate_left
            · simp only [Act.put, pa3_1, pa3_2, pa3_3, i64_w, i32_w]
              rfl
            refine take_ (i := 34) (N := some 51) (v := ?_) (a' := ?_) m3_43 rfl rfl (take_ofW HT_.out HW_.out (by kernel_rfl)) (fun _ _ _ h => h) (Or.inl ⟨by rfl, ?_⟩) hHeld ?_ ?_; rotate_left
            · rintro w' ⟨s0, s1, s2, s3, s4, s5, s6, s7, s8, s9, s10, s11⟩
              go_simp; (with_reducible rfl)
            rotate_left
            · simp only [Act.put, pa3_1, pa3_2, pa3_3, i64_w, i32_w]
              rfl
            refine pure_ (i := 35) (N := some 52) (v := ?_) (a' := ?_) m3_44 rfl rfl (any_of HT_.out (by kernel_rfl)) (fun _ _ _ h => h) (Or.inl ⟨by rfl, ?_⟩) ?_ ?_; rotate_left
            · intro w'
              go_simp; (with_reducible rfl)
            rotate_left
            · simp only [Act.put, pa3_1, pa3_2, pa3_3, i64_w, i32_w]
              rfl
            refine pure_ (i := 36) (N := some 53) (v := ?_) (a' := ?_) m3_45 rfl rfl (any_of HT_.out (by kernel_rfl)) (fun _ _ _ h => h) (Or.inl ⟨by rfl, ?_⟩) ?_ ?_; rotate_left
            · intro w'
              go_simp; (with_reducible rfl)
            rotate_left
            · simp only [Act.put, pa3_1, pa3_2, pa3_3, i64_w, i32_w]
              rfl
            refine pure_ (i := 37) (N := some 54) (v := ?_) (a' := ?_) m3_46 rfl rfl (any_of HT_.out (by kernel_rfl)) (fun _ _ _ h => h) (Or.inl ⟨by rfl, ?_⟩) ?_ ?_; rotate_left
            · intro w'
              go_simp; (with_reducible rfl)
            rotate_left
            · simp only [Act.put, pa3_1, pa3_2, pa3_3, i64_w, i32_w]
              rfl
            refine pure_ (i := 38) (N := some 55) (v := undef) (a' := ?_) m3_47 rfl rfl (any_of HT_.out (by kernel_rfl)) (fun _ _ _ h => h) (Or.inr ⟨by rfl, rfl⟩) ?_ ?_; rotate_left
            · simp only [Act.put, pa3_1, pa3_2, pa3_3, i64_w, i32_w]
              rfl
            refine pure_ (i := 39) (N := some 56) (v := undef) (a' := ?_) m3_48 rfl rfl (any_of HT_.out (by kernel_rfl)) (fun _ _ _ h => h) (Or.inr ⟨by rfl, rfl⟩) ?_ ?_; rotate_left
            · simp only [Act.put, pa3_1, pa3_2, pa3_3, i64_w, i32_w]
              rfl
            refine pure_ (i := 40) (N := some 57) (v := undef) (a' := ?_) m3_49 rfl rfl (any_of HT_.out (by kernel_rfl)) (fun _ _ _ h => h) (Or.inr ⟨by rfl, rfl⟩) ?_ ?_; rotate_left
            · simp only [Act.put, pa3_1, pa3_2, pa3_3, i64_w, i32_w]
              rfl
            refine pure_ (i := 41) (N := some 58) (v := undef) (a' := ?_) m3_50 rfl rfl (any_of HT_.out (by kernel_rfl)) (fun _ _ _ h => h) (Or.inr ⟨by rfl, rfl⟩) ?_ ?_; rotate_left
            · simp only [Act.put, pa3_1, pa3_2, pa3_3, i64_w, i32_w]
              rfl
            refine pure_ (i := 42) (N := some 59) (v := undef) (a' := ?_) m3_55 rfl rfl (any_of HT_.out (by kernel_rfl)) (fun _ _ _ h => h) (Or.inr ⟨by rfl, rfl⟩) ?_ ?_; rotate_left
            · simp only [Act.put, pa3_1, pa3_2, pa3_3, i64_w, i32_w]
              rfl
            refine pure_ (i := 43) (N := some 60) (v := undef) (a' := ?_) m3_56 rfl rfl (any_of HT_.out (by kernel_rfl)) (fun _ _ _ h => h) (Or.inr ⟨by rfl, rfl⟩) ?_ ?_; rotate_left
            · simp only [Act.put, pa3_1, pa3_2, pa3_3, i64_w, i32_w]
              rfl
            refine pure_ (i := 44) (N := some 61) (v := undef) (a' := ?_) m3_57 rfl rfl (any_of HT_.out (by kernel_rfl)) (fun _ _ _ h => h) (Or.inr ⟨by rfl, rfl⟩) ?_ ?_; rotate_left
            · simp only [Act.put, pa3_1, pa3_2, pa3_3, i64_w, i32_w]
              rfl
            refine pure_ (i := 45) (N := some 62) (v := undef) (a' := ?_) m3_58 rfl rfl (any_of HT_.out (by kernel_rfl)) (fun _ _ _ h => h) (Or.inr ⟨by rfl, rfl⟩) ?_ ?_; rotate_left
            · simp only [Act.put, pa3_1, pa3_2, pa3_3, i64_w, i32_w]
              rfl
            refine pure_ (i := 46) (N := some 63) (v := undef) (a' := ?_) m3_59 rfl rfl (any_of HT_.out (by kernel_rfl)) (fun _ _ _ h => h) (Or.inr ⟨by rfl, rfl⟩) ?_ ?_; rotate_left
            · simp only [Act.put, pa3_1, pa3_2, pa3_3, i64_w, i32_w]
              rfl
            refine pure_ (i := 47) (N := some 64) (v := undef) (a' := ?_) m3_60 rfl rfl (any_of HT_.out (by kernel_rfl)) (fun _ _ _ h => h) (Or.inr ⟨by rfl, rfl⟩) ?_ ?_; rotate_left
            · simp only [Act.put, pa3_1, pa3_2, pa3_3, i64_w, i32_w]
              rfl
            refine pure_ (i := 48) (N := some 65) (v := undef) (a' := ?_) m3_61 rfl rfl (any_of HT_.out (by kernel_rfl)) (fun _ _ _ h => h) (Or.inr ⟨by rfl, rfl⟩) ?_ ?_; rotate_left
            · simp only [Act.put, pa3_1, pa3_2, pa3_3, i64_w, i32_w]
              rfl
            refine pure_ (i := 49) (N := some 66) (v := ?_) (a' := ?_) m3_62 rfl rfl (any_of HT_.out (by kernel_rfl)) (fun _ _ _ h => h) (Or.inl ⟨by rfl, ?_⟩) ?_ ?_; rotate_left
            · intro w'
              go_simp; (with_reducible rfl)
            rotate_left
            · simp only [Act.put, pa3_1, pa3_2, pa3_3, i64_w, i32_w]
              rfl
            refine pure_ (i := 50) (N := some 67) (v := ?_) (a' := ?_) m3_63 rfl rfl (any_of HT_.out (by kernel_rfl)) (fun _ _ _ h => h) (Or.inl ⟨by rfl, ?_⟩) ?_ ?_; rotate_left
            · intro w'
              go_simp; (with_reducible rfl)
            rotate_left
            · simp only [Act.put, pa3_1, pa3_2, pa3_3, i64_w, i32_w]
              rfl
            refine pure_ (i := 51) (N := some 68) (v := undef) (a' := ?_) m3_64 rfl rfl (any_of HT_.out (by kernel_rfl)) (fun _ _ _ h => h) (Or.inr ⟨by rfl, rfl⟩) ?_ ?_; rotate_left
            · simp only [Act.put, pa3_1, pa3_2, pa3_3, i64_w, i32_w]
              rfl
            refine pure_ (i := 52) (N := some 69) (v := undef) (a' := ?_) m3_65 rfl rfl (any_of HT_.out (by kernel_rfl)) (fun _ _ _ h => h) (Or.inr ⟨by rfl, rfl⟩) ?_ ?_; rotate_left
            · simp only [Act.put, pa3_1, pa3_2, pa3_3, i64_w, i32_w]
              rfl
            refine pure_ (i := 53) (N := some 70) (v := undef) (a' := ?_) m3_66 rfl rfl (any_of HT_.out (by kernel_rfl)) (fun _ _ _ h => h) (Or.inr ⟨by rfl, rfl⟩) ?_ ?_; rotate_left
            · simp only [Act.put, pa3_1, pa3_2, pa3_3, i64_w, i32_w]
              rfl
            refine pure_ (i := 54) (N := some 71) (v := undef) (a' := ?_) m3_67 rfl rfl (any_of HT_.out (by kernel_rfl)) (fun _ _ _ h => h) (Or.inr ⟨by rfl, rfl⟩) ?_ ?_; rotate_left
            · simp only [Act.put, pa3_1, pa3_2, pa3_3, i64_w, i32_w]
              rfl
            refine pure_ (i := 55) (N := some 72) (v := undef) (a' := ?_) m3_72 rfl rfl (any_of HT_.out (by kernel_rfl)) (fun _ _ _ h => h) (Or.inr ⟨by rfl, rfl⟩) ?_ ?_; rotate_left
            · simp only [Act.put, pa3_1, pa3_2, pa3_3, i64_w, i32_w]
              rfl
            refine pure_ (i := 56) (N := some 73) (v := undef) (a' := ?_) m3_73 rfl rfl (any_of HT_.out (by kernel_rfl)) (fun _ _ _ h => h) (Or.inr ⟨by rfl, rfl⟩) ?_ ?_; rotate_left
            · simp only [Act.put, pa3_1, pa3_2, pa3_3, i64_w, i32_w]
              rfl
            refine pure_ (i := 57) (N := some 74) (v := undef) (a' := ?_) m3_74 rfl rfl (any_of HT_.out (by kernel_rfl)) (fun _ _ _ h => h) (Or.inr ⟨by rfl, rfl⟩) ?_ ?_; rotate_left
            · simp only [Act.put, pa3_1, pa3_2, pa3_3, i64_w, i32_w]
              rfl
            refine pure_ (i := 58) (N := some 75) (v := undef) (a' := ?_) m3_75 rfl rfl (any_of HT_.out (by kernel_rfl)) (fun _ _ _ h => h) (Or.inr ⟨by rfl, rfl⟩) ?_ ?_; rotate_left
            · simp only [Act.put, pa3_1, pa3_2, pa3_3, i64_w, i32_w]
              rfl
            refine pure_ (i := 59) (N := some 76) (v := undef) (a' := ?_) m3_76 rfl rfl (any_of HT_.out (by kernel_rfl)) (fun _ _ _ h => h) (Or.inr ⟨by rfl, rfl⟩) ?_ ?_; rotate_left
            · simp only [Act.put, pa3_1, pa3_2, pa3_3, i64_w, i32_w]
              rfl
            refine pure_ (i := 60) (N := some 77) (v := undef) (a' := ?_) m3_77 rfl rfl (any_of HT_.out (by kernel_rfl)) (fun _ _ _ h => h) (Or.inr ⟨by rfl, rfl⟩) ?_ ?_; rotate_left
            · simp only [Act.put, pa3_1, pa3_2, pa3_3, i64_w, i32_w]
              rfl
            refine pure_ (i := 61) (N := some 78) (v := undef) (a' := ?_) m3_78 rfl rfl (any_of HT_.out (by kernel_rfl)) (fun _ _ _ h => h) (Or.inr ⟨by rfl, rfl⟩) ?_ ?_; rotate_left
            · simp only [Act.put, pa3_1, pa3_2, pa3_3, i64_w, i32_w]
              rfl
            refine pure_ (i := 62) (N := some 79) (v := ?_) (a' := ?_) m3_79 rfl rfl (any_of HT_.out (by kernel_rfl)) (fun _ _ _ h => h) (Or.inl ⟨by rfl, ?_⟩) ?_ ?_; rotate_left
            · intro w'
              go_simp; (with_reducible rfl)
            rotate_left
            · simp only [Act.put, pa3_1, pa3_2, pa3_3, i64_w, i32_w]
              rfl
            refine pure_ (i := 63) (N := some 80) (v := ?_) (a' := ?_) m3_80 rfl rfl (any_of HT_.out (by kernel_rfl)) (fun _ _ _ h => h) (Or.inl ⟨by rfl, ?_⟩) ?_ ?_; rotate_left
            · intro w'
              go_simp; (with_reducible rfl)
            rotate_left
            · simp only [Act.put, pa3_1, pa3_2, pa3_3, i64_w, i32_w]
              rfl
            refine pure_ (i := 64) (N := some 81) (v := undef) (a' := ?_) m3_81 rfl rfl (any_of HT_.out (by kernel_rfl)) (fun _ _ _ h => h) (Or.inr ⟨by rfl, rfl⟩) ?_ ?_; rotate_left
            · simp only [Act.put, pa3_1, pa3_2, pa3_3, i64_w, i32_w]
              rfl
            refine pure_ (i := 65) (N := some 82) (v := undef) (a' := ?_) m3_82 rfl rfl (any_of HT_.out (by kernel_rfl)) (fun _ _ _ h => h) (Or.inr ⟨by rfl, rfl⟩) ?_ ?_; rotate_left
            · simp only [Act.put, pa3_1, pa3_2, pa3_3, i64_w, i32_w]
              rfl
            refine pure_ (i := 66) (N := some 83) (v := undef) (a' := ?_) m3_83 rfl rfl (any_of HT_.out (by kernel_rfl)) (fun _ _ _ h => h) (Or.inr ⟨by rfl, rfl⟩) ?_ ?_; rotate_left
            · simp only [Act.put, pa3_1, pa3_2, pa3_3, i64_w, i32_w]
              rfl
            refine pure_ (i := 67) (N := some 84) (v := undef) (a' := ?_) m3_84 rfl rfl (any_of HT_.out (by kernel_rfl)) (fun _ _ _ h => h) (Or.inr ⟨by rfl, rfl⟩) ?_ ?_; rotate_left
            · simp only [Act.put, pa3_1, pa3_2, pa3_3, i64_w, i32_w]
              rfl
            refine pure_ (i := 68) (N := some 85) (v := undef) (a' := ?_) m3_89 rfl rfl (any_of HT_.out (by kernel_rfl)) (fun _ _ _ h => h) (Or.inr ⟨by rfl, rfl⟩) ?_ ?_; rotate_left
            · simp only [Act.put, pa3_1, pa3_2, pa3_3, i64_w, i32_w]
              rfl
            refine pure_ (i := 69) (N := some 86) (v := undef) (a' := ?_) m3_90 rfl rfl (any_of HT_.out (by kernel_rfl)) (fun _ _ _ h => h) (Or.inr ⟨by rfl, rfl⟩) ?_ ?_; rotate_left
            · simp only [Act.put, pa3_1, pa3_2, pa3_3, i64_w, i32_w]
              rfl
            refine pure_ (i := 70) (N := some 87) (v := undef) (a' := ?_) m3_91 rfl rfl (any_of HT_.out (by kernel_rfl)) (fun _ _ _ h => h) (Or.inr ⟨by rfl, rfl⟩) ?_ ?_; rotate_left
            · simp only [Act.put, pa3_1, pa3_2, pa3_3, i64_w, i32_w]
              rfl
            refine pure_ (i := 71) (N := some 88) (v := undef) (a' := ?_) m3_92 rfl rfl (any_of HT_.out (by kernel_rfl)) (fun _ _ _ h => h) (Or.inr ⟨by rfl, rfl⟩) ?_ ?_; rotate_left
            · simp only [Act.put, pa3_1, pa3_2, pa3_3, i64_w, i32_w]
              rfl
            refine pure_ (i := 72) (N := some 89) (v := undef) (a' := ?_) m3_93 rfl rfl (any_of HT_.out (by kernel_rfl)) (fun _ _ _ h => h) (Or.inr ⟨by rfl, rfl⟩) ?_ ?_; rotate_left
            · simp only [Act.put, pa3_1, pa3_2, pa3_3, i64_w, i32_w]
              rfl
            refine pure_ (i := 73) (N := some 90) (v := undef) (a' := ?_) m3_94 rfl rfl (any_of HT_.out (by kernel_rfl)) (fun _ _ _ h => h) (Or.inr ⟨by rfl, rfl⟩) ?_ ?_; rotate_left
            · simp only [Act.put, pa3_1, pa3_2, pa3_3, i64_w, i32_w]
              rfl
            refine pure_ (i := 74) (N := some 91) (v := undef) (a' := ?_) m3_95 rfl rfl (any_of HT_.out (by kernel_rfl)) (fun _ _ _ h => h) (Or.inr ⟨by rfl, rfl⟩) ?_ ?_; rotate_left
            · simp only [Act.put, pa3_1, pa3_2, pa3_3, i64_w, i32_w]
              rfl
            refine pure_ (i := 75) (N := some 92) (v := undef) (a' := ?_) m3_96 rfl rfl (any_of HT_.out (by kernel_rfl)) (fun _ _ _ h => h) (Or.inr ⟨by rfl, rfl⟩) ?_ ?_; rotate_left
            · simp only [Act.put, pa3_1, pa3_2, pa3_3, i64_w, i32_w]
              rfl
            refine pure_ (i := 76) (N := some 93) (v := ?_) (a' := ?_) m3_97 rfl rfl (any_of HT_.out (by kernel_rfl)) (fun _ _ _ h => h) (Or.inl ⟨by rfl, ?_⟩) ?_ ?_; rotate_left
            · intro w'
              go_simp; (with_reducible rfl)
            rotate_left
            · simp only [Act.put, pa3_1, pa3_2, pa3_3, i64_w, i32_w]
              rfl
            refine done_ (done_of HT_.out (by kernel_rfl)) ?_
            try go_wp2
            go_meet
            case rel => exact ⟨_, (true), d3_2, H', ⟨by have := HK1.out; first | omega | exact Nat.le_refl _⟩, ⟨c3_1⟩⟩
          ·rw [if_neg c9] at H
           have c9b0 : (((rd_T34 l0 x5_1).f1) == ((rd_T34 l1 x5_1).f1)) = false := beq_eq_false_iff_ne.mpr c9; have c9b1 : (((rd_T34 l0 x5_1).f1) != ((rd_T34 l1 x5_1).f1)) = true := bne_iff_ne.mpr c9; have H' := ak H; clear H
           try go_wp2
           have n0_ := ak (below_drew1 HB.out); clear HB; have HB := n0_; clear n0_; have p110 : 0 ≤ (x5_1 : Int) := of_decide_eq_true d3_1; have q110 : x5_1 < (l0.length : Int) := of_decide_eq_true d3_1; obtain ⟨ad110, A110_5, c110_5, e110, hx110_0, hx110_1, hx110_2, hx110_3, hx110_4, hx110_5, hl110_5, hi110_5⟩ := at_T34 HR0.out x5_1 p110 q110; have hw110_5 := hx110_5; have hw110_4 := hx110_4; have hw110_3 := hx110_3; have hw110_2 := hx110_2; have hw110_1 := hx110_1; have hw110_0 := hx110_0
           cases e110
           replace hx110_0 := (HB.out.cell (World.block_lt_of_cell? w _ hx110_0)).trans hx110_0; replace hx110_1 := (HB.out.cell (World.block_lt_of_cell? w _ hx110_1)).trans hx110_1; replace hx110_2 := (HB.out.cell (World.block_lt_of_cell? w _ hx110_2)).trans hx110_2; replace hx110_3 := (HB.out.cell (World.block_lt_of_cell? w _ hx110_3)).trans hx110_3; replace hx110_4 := (HB.out.cell (World.block_lt_of_cell? w _ hx110_4)).trans hx110_4; replace hx110_5 := (HB.out.cell (World.block_lt_of_cell? w _ hx110_5)).trans hx110_5; have HR110_5 := ak hi110_5; have HC110_5 := ak hl110_5; clear hi110_5 hl110_5; replace p110 := eq_true p110; replace q110 := eq_true q110; have p111 : 0 ≤ (x5_1 : Int) := of_decide_eq_true d3_1; have q111 : x5_1 < (l1.length : Int) := of_decide_eq_true d3_1; obtain ⟨ad111, A111_5, c111_5, e111, hx111_0, hx111_1, hx111_2, hx111_3, hx111_4, hx111_5, hl111_5, hi111_5⟩ := at_T34 HR1.out x5_1 p111 q111; have hw111_5 := hx111_5; have hw111_4 := hx111_4; have hw111_3 := hx111_3; have hw111_2 := hx111_2; have hw111_1 := hx111_1; have hw111_0 := hx111_0
           cases e111
           replace hx111_0 := (HB.out.cell (World.block_lt_of_cell? w _ hx111_0)).trans hx111_0; replace hx111_1 := (HB.out.cell (World.block_lt_of_cell? w _ hx111_1)).trans hx111_1; replace hx111_2 := (HB.out.cell (World.block_lt_of_cell? w _ hx111_2)).trans hx111_2; replace hx111_3 := (HB.out.cell (World.block_lt_of_cell? w _ hx111_3)).trans hx111_3; replace hx111_4 := (HB.out.cell (World.block_lt_of_cell? w _ hx111_4)).trans hx111_4; replace hx111_5 := (HB.out.cell (World.block_lt_of_cell? w _ hx111_5)).trans hx111_5; have HR111_5 := ak hi111_5; have HC111_5 := ak hl111_5; clear hi111_5 hl111_5; replace p111 := eq_true p111; replace q111 := eq_true q111; have p112 : 0 ≤ (x5_1 : Int) := of_decide_eq_true d3_1; have q112 : x5_1 < (l0.length : Int) := of_decide_eq_true d3_1; obtain ⟨ad112, A112_5, c112_5, e112, hx112_0, hx112_1, hx112_2, hx112_3, hx112_4, hx112_5, hl112_5, hi112_5⟩ := at_T34 HR0.out x5_1 p112 q112; have hw112_5 := hx112_5; have hw112_4 := hx112_4; have hw112_3 := hx112_3; have hw112_2 := hx112_2; have hw112_1 := hx112_1; have hw112_0 := hx112_0; obtain rfl : ad110 = ad112 := (by injection e112); replace hx112_0 := (HB.out.cell (World.block_lt_of_cell? w _ hx112_0)).trans hx112_0; replace hx112_1 := (HB.out.cell (World.block_lt_of_cell? w _ hx112_1)).trans hx112_1; replace hx112_2 := (HB.out.cell (World.block_lt_of_cell? w _ hx112_2)).trans hx112_2; replace hx112_3 := (HB.out.cell (World.block_lt_of_cell? w _ hx112_3)).trans hx112_3
           replace hx112_4 := (HB.out.cell (World.block_lt_of_cell? w _ hx112_4)).trans hx112_4; replace hx112_5 := (HB.out.cell (World.block_lt_of_cell? w _ hx112_5)).trans hx112_5; have HR112_5 := ak hi112_5; have HC112_5 := ak hl112_5; clear hi112_5 hl112_5; replace p112 := eq_true p112; replace q112 := eq_true q112; have ea_ := Option.some.inj (hx110_5.symm.trans hx112_5); injection ea_ with ea_ en_ ec_; subst ea_; subst ec_; clear en_; have p113 : 0 ≤ (x5_1 : Int) := of_decide_eq_true d3_1; have q113 : x5_1 < (l1.length : Int) := of_decide_eq_true d3_1; obtain ⟨ad113, A113_5, c113_5, e113, hx113_0, hx113_1, hx113_2, hx113_3, hx113_4, hx113_5, hl113_5, hi113_5⟩ := at_T34 HR1.out x5_1 p113 q113; have hw113_5 := hx113_5; have hw113_4 := hx113_4; have hw113_3 := hx113_3; have hw113_2 := hx113_2; have hw113_1 := hx113_1; have hw113_0 := hx113_0; obtain rfl : ad111 = ad113 := (by injection e113); replace hx113_0 := (HB.out.cell (World.block_lt_of_cell? w _ hx113_0)).trans hx113_0; replace hx113_1 := (HB.out.cell (World.block_lt_of_cell? w _ hx113_1)).trans hx113_1; replace hx113_2 := (HB.out.cell (World.block_lt_of_cell? w _ hx113_2)).trans hx113_2; replace hx113_3 := (HB.out.cell (World.block_lt_of_cell? w _ hx113_3)).trans hx113_3; replace hx113_4 := (HB.out.cell (World.block_lt_of_cell? w _ hx113_4)).trans hx113_4; replace hx113_5 := (HB.out.cell (World.block_lt_of_cell? w _ hx113_5)).trans hx113_5; have HR113_5 := ak hi113_5; have HC113_5 := ak hl113_5
           clear hi113_5 hl113_5; replace p113 := eq_true p113; replace q113 := eq_true q113; have ea_ := Option.some.inj (hx111_5.symm.trans hx113_5); injection ea_ with ea_ en_ ec_; subst ea_; subst ec_; clear en_; clear hx112_0 hx112_1 hx112_2 hx112_3 hx112_4 hx112_5 hx113_0 hx113_1 hx113_2 hx113_3 hx113_4 hx113_5
           refine start_ (n := 77) (S := fun w' => w'.cell? (ad110.add ((x5_1).toNat * 6)) = some (.int .i64 ((rd_T34 l0 x5_1).f0)) ∧ w'.cell? ⟨(ad110.add ((x5_1).toNat * 6)).block, (ad110.add ((x5_1).toNat * 6)).off + 1, none⟩ = some (.int .i64 ((rd_T34 l0 x5_1).f1)) ∧ w'.cell? ⟨(ad110.add ((x5_1).toNat * 6)).block, (ad110.add ((x5_1).toNat * 6)).off + 2, none⟩ = some (.int .i64 ((rd_T34 l0 x5_1).f2)) ∧ w'.cell? ⟨(ad110.add ((x5_1).toNat * 6)).block, (ad110.add ((x5_1).toNat * 6)).off + 3, none⟩ = some (.int .i64 ((rd_T34 l0 x5_1).f3)) ∧ w'.cell? ⟨(ad110.add ((x5_1).toNat * 6)).block, (ad110.add ((x5_1).toNat * 6)).off + 4, none⟩ = some (.string ((rd_T34 l0 x5_1).f4)) ∧ w'.cell? ⟨(ad110.add ((x5_1).toNat * 6)).block, (ad110.add ((x5_1).toNat * 6)).off + 5, none⟩ = some (.slice A110_5 ((rd_T34 l0 x5_1).f5).length c110_5) ∧ w'.cell? (ad111.add ((x5_1).toNat * 6)) = some (.int .i64 ((rd_T34 l1 x5_1).f0)) ∧ w'.cell? ⟨(ad111.add ((x5_1).toNat * 6)).block, (ad111.add ((x5_1).toNat * 6)).off + 1, none⟩ = some (.int .i64 ((rd_T34 l1 x5_1).f1)) ∧ w'.cell? ⟨(ad111.add ((x5_1).toNat * 6)).block, (ad111.add ((x5_1).toNat * 6)).off + 2, none⟩ = some (.int .i64 ((rd_T34 l1 x5_1).f2)) ∧ w'.cell? ⟨(ad111.add ((x5_1).toNat * 6)).block, (ad111.add ((x5_1).toNat * 6)).off + 3, none⟩ = some (.int .i64 ((rd_T34 l1 x5_1).f3)) ∧ w'.cell? ⟨(ad111.add ((x5_1).toNat * 6)).block, (ad111.add ((x5_1).toNat * 6)).off + 4, none⟩ = some (.string ((rd_T34 l1 x5_1).f4)) ∧ w'.cell? ⟨(ad111.add ((x5_1).toNat * 6)).block, (ad111.add ((x5_1).toNat * 6)).off + 5, none⟩ = some (.slice A111_5 ((rd_T34 l1 x5_1).f5).length c111_5)) (ds := []) m3_0 (by kernel_rfl) rfl rfl ⟨((HB.out.cell (World.block_lt_of_cell? w _ hw110_0)).trans hw110_0), ((HB.out.cell (World.block_lt_of_cell? w _ hw110_1)).trans hw110_1), ((HB.out.cell (World.block_lt_of_cell? w _ hw110_2)).trans hw110_2), ((HB.out.cell (World.block_lt_of_cell? w _ hw110_3)).trans hw110_3), ((HB.out.cell (World.block_lt_of_cell? w _ hw110_4)).trans hw110_4), ((HB.out.cell (World.block_lt_of_cell? w _ hw110_5)).trans hw110_5), ((HB.out.cell (World.block_lt_of_cell? w _ hw111_0)).trans hw111_0), ((HB.out.cell (World.block_lt_of_cell? w _ hw111_1)).trans hw111_1), ((HB.out.cell (World.block_lt_of_cell? w _ hw111_2)).trans hw111_2), ((HB.out.cell (World.block_lt_of_cell? w _ hw111_3)).trans hw111_3), ((HB.out.cell (World.block_lt_of_cell? w _ hw111_4)).trans hw111_4), ((HB.out.cell (World.block_lt_of_cell? w _ hw111_5)).trans hw111_5)⟩ (fun hHeld => ?_); refine with_tabW spec_SameCores.tab6 spec_SameCores.bits6 (fun HT_ HW_ => ?_)
           generalize wr.drew = w18 at HB HR110_5 HR111_5 HR112_5 HR113_5 hx110_0 hx110_1 hx110_2 hx110_3 hx110_4 hx110_5 hx111_0 hx111_1 hx111_2 hx111_3 hx111_4 hx111_5 hHeld ⊢; refine pure_ (i := 0) (N := some 17) (v := ?_) (a' := ?_) m3_1 rfl rfl (any_of HT_.out (by kernel_rfl)) (fun _ _ _ h => h) (Or.inl ⟨by rfl, ?_⟩) ?_ ?_; rotate_left
           · intro w'
             go_simp; (with_reducible rfl)
           rotate_left
           · simp only [Act.put, pa3_1, pa3_2, pa3_3, i64_w, i32_w]
             rfl
           refine pure_ (i := 1) (N := some 18) (v := ?_) (a' := ?_) m3_2 rfl rfl (any_of HT_.out (by kernel_rfl)) (fun _ _ _ h => h) (Or.inl ⟨by rfl, ?_⟩) ?_ ?_; rotate_left
           · intro w'
             go_simp; (with_reducible rfl)
           rotate_left
           · simp only [Act.put, pa3_1, pa3_2, pa3_3, i64_w, i32_w]
             rfl
           refine pure_ (i := 2) (N := some 19) (v := ?_) (a' := ?_) m3_3 rfl rfl (any_of HT_.out (by kernel_rfl)) (fun _ _ _ h => h) (Or.inl ⟨by rfl, ?_⟩) ?_ ?_; rotate_left
           · intro w'
             go_simp; (with_reducible rfl)
           rotate_left
           · simp only [Act.put, pa3_1, pa3_2, pa3_3, i64_w, i32_w]
             rfl
           refine pure_ (i := 3) (N := some 20) (v := ?_) (a' := ?_) m3_4 rfl rfl (any_of HT_.out (by kernel_rfl)) (fun _ _ _ h => h) (Or.inl ⟨by rfl, ?_⟩) ?_ ?_; rotate_left
           · intro w'
             go_simp; (with_reducible rfl)
           rotate_left
           · simp only [Act.put, pa3_1, pa3_2, pa3_3, i64_w, i32_w]
             rfl
           refine pure_ (i := 5) (N := some 22) (v := ?_) (a' := ?_) m3_5 rfl rfl (any_of HT_.out (by kernel_rfl)) (fun _ _ _ h => h) (Or.inl ⟨by rfl, ?_⟩) ?_ ?_; rotate_left
           · intro w'
             go_simp; (with_reducible rfl)
           rotate_left
           · simp only [Act.put, pa3_1, pa3_2, pa3_3, i64_w, i32_w]
             rfl
           refine pure_ (i := 6) (N := some 23) (v := ?_) (a' := ?_) m3_6 rfl rfl (any_of HT_.out (by kernel_rfl)) (fun _ _ _ h => h) (Or.inl ⟨by rfl, ?_⟩) ?_ ?_; rotate_left
           · intro w'
             go_simp; (with_reducible rfl)
           rotate_left
           · simp only [Act.put, pa3_1, pa3_2, pa3_3, i64_w, i32_w]
             rfl
           refine pure_ (i := 7) (N := some 24) (v := ?_) (a' := ?_) m3_7 rfl rfl (any_of HT_.out (by kernel_rfl)) (fun _ _ _ h => h) (Or.inl ⟨by rfl, ?_⟩) ?_ ?_; rotate_left
           · intro w'
             go_simp; (with_reducible rfl)
           rotate_left
           · simp only [Act.put, pa3_1, pa3_2, pa3_3, i64_w, i32_w]
             rfl
           refine pure_ (i := 8) (N := some 25) (v := ?_) (a' := ?_) m3_8 rfl rfl (any_of HT_.out (by kernel_rfl)) (fun _ _ _ h => h) (Or.inl ⟨by rfl, ?_⟩) ?_ ?_; rotate_left
           · intro w'
             go_simp; (with_reducible rfl)
           rotate_left
           · simp only [Act.put, pa3_1, pa3_2, pa3_3, i64_w, i32_w]
             rfl
           refine take_ (i := 4) (N := some 21) (v := ?_) (a' := ?_) m3_9 rfl rfl (take_ofW HT_.out HW_.out (by kernel_rfl)) (fun _ _ _ h => h) (Or.inl ⟨by rfl, ?_⟩) hHeld ?_ ?_; rotate_left
           · rintro w' ⟨s0, s1, s2, s3, s4, s5, s6, s7, s8, s9, s10, s11⟩
             go_simp; (with_reducible rfl)
           rotate_left
           · simp only [Act.put, pa3_1, pa3_2, pa3_3, i64_w, i32_w]
             rfl
           refine take_ (i := 9) (N := some 26) (v := ?_) (a' := ?_) m3_10 rfl rfl (take_ofW HT_.out HW_.out (by kernel_rfl)) (fun _ _ _ h => h) (Or.inl ⟨by rfl, ?_⟩) hHeld ?_ ?_; rotate_left
           · rintro w' ⟨s0, s1, s2, s3, s4, s5, s6, s7, s8, s9, s10, s11⟩
             go_simp; (with_reducible rfl)
           rotate_left
           · simp only [Act.put, pa3_1, pa3_2, pa3_3, i64_w, i32_w]
             rfl
           refine pure_ (i := 10) (N := some 27) (v := ?_) (a' := ?_) m3_11 rfl rfl (any_of HT_.out (by kernel_rfl)) (fun _ _ _ h => h) (Or.inl ⟨by rfl, ?_⟩) ?_ ?_; rotate_left
           · intro w'
             go_simp; (with_reducible rfl)
           rotate_left
           · simp only [Act.put, pa3_1, pa3_2, pa3_3, i64_w, i32_w]
             rfl
           refine pure_ (i := 11) (N := some 28) (v := ?_) (a' := ?_) m3_12 rfl rfl (any_of HT_.out (by kernel_rfl)) (fun _ _ _ h => h) (Or.inl ⟨by rfl, ?_⟩) ?_ ?_; rotate_left
           · intro w'
             go_simp; (with_reducible rfl)
           rotate_left
           · simp only [Act.put, pa3_1, pa3_2, pa3_3, i64_w, i32_w]
             rfl
           refine pure_ (i := 12) (N := some 29) (v := ?_) (a' := ?_) m3_13 rfl rfl (any_of HT_.out (by kernel_rfl)) (fun _ _ _ h => h) (Or.inl ⟨by rfl, ?_⟩) ?_ ?_; rotate_left
           · intro w'
             go_simp; (with_reducible rfl)
           rotate_left
           · simp only [Act.put, pa3_1, pa3_2, pa3_3, i64_w, i32_w]
             rfl
           refine pure_ (i := 13) (N := some 30) (v := ?_) (a' := ?_) m3_14 rfl rfl (any_of HT_.out (by kernel_rfl)) (fun _ _ _ h => h) (Or.inl ⟨by rfl, ?_⟩) ?_ ?_; rotate_left
           · intro w'
             go_simp; (with_reducible rfl)
           rotate_left
           · simp only [Act.put, pa3_1, pa3_2, pa3_3, i64_w, i32_w]
             rfl
           refine pure_ (i := 14) (N := some 31) (v := ?_) (a' := ?_) m3_15 rfl rfl (any_of HT_.out (by kernel_rfl)) (fun _ _ _ h => h) (Or.inl ⟨by rfl, ?_⟩) ?_ ?_; rotate_left
           · intro w'
             go_simp; (with_reducible rfl)
           rotate_left
           · simp only [Act.put, pa3_1, pa3_2, pa3_3, i64_w, i32_w]
             rfl
           refine pure_ (i := 15) (N := some 32) (v := ?_) (a' := ?_) m3_16 rfl rfl (any_of HT_.out (by kernel_rfl)) (fun _ _ _ h => h) (Or.inl ⟨by rfl, ?_⟩) ?_ ?_; rotate_left
           · intro w'
             go_simp; (with_reducible rfl)
           rotate_left
           · simp only [Act.put, pa3_1, pa3_2, pa3_3, i64_w, i32_w]
             rfl
           refine pure_ (i := 17) (N := some 34) (v := ?_) (a' := ?_) m3_17 rfl rfl (any_of HT_.out (by kernel_rfl)) (fun _ _ _ h => h) (Or.inl ⟨by rfl, ?_⟩) ?_ ?_; rotate_left
           · intro w'
             go_simp; (with_reducible rfl)
           rotate_left
           · simp only [Act.put, pa3_1, pa3_2, pa3_3, i64_w, i32_w]
             rfl
           refine pure_ (i := 18) (N := some 35) (v := ?_) (a' := ?_) m3_18 rfl rfl (any_of HT_.out (by kernel_rfl)) (fun _ _ _ h => h) (Or.inl ⟨by rfl, ?_⟩) ?_ ?_; rotate_left
           · intro w'
             go_simp; (with_reducible rfl)
           rotate_left
           · simp only [Act.put, pa3_1, pa3_2, pa3_3, i64_w, i32_w]
             rfl
           refine pure_ (i := 19) (N := some 36) (v := ?_) (a' := ?_) m3_19 rfl rfl (any_of HT_.out (by kernel_rfl)) (fun _ _ _ h => h) (Or.inl ⟨by rfl, ?_⟩) ?_ ?_; rotate_left
           · intro w'
             go_simp; (with_reducible rfl)
           rotate_left
           · simp only [Act.put, pa3_1, pa3_2, pa3_3, i64_w, i32_w]
             rfl
           refine pure_ (i := 20) (N := some 37) (v := ?_) (a' := ?_) m3_20 rfl rfl (any_of HT_.out (by kernel_rfl)) (fun _ _ _ h => h) (Or.inl ⟨by rfl, ?_⟩) ?_ ?_; rotate_left
           · intro w'
             go_simp; (with_reducible rfl)
           rotate_left
           · simp only [Act.put, pa3_1, pa3_2, pa3_3, i64_w, i32_w]
             rfl
           refine take_ (i := 16) (N := some 33) (v := ?_) (a' := ?_) m3_25 rfl rfl (take_ofW HT_.out HW_.out (by kernel_rfl)) (fun _ _ _ h => h) (Or.inl ⟨by rfl, ?_⟩) hHeld ?_ ?_; rotate_left
           · rintro w' ⟨s0, s1, s2, s3, s4, s5, s6, s7, s8, s9, s10, s11⟩
             go_simp; (with_reducible rfl)
           rotate_left
           · simp only [Act.put, pa3_1, pa3_2, pa3_3, i64_w, i32_w]
             rfl
           refine take_ (i := 21) (N := some 38) (v := ?_) (a' := ?_) m3_26 rfl rfl (take_ofW HT_.out HW_.out (by kernel_rfl)) (fun _ _ _ h => h) (Or.inl ⟨by rfl, ?_⟩) hHeld ?_ ?_; rotate_left
           · rintro w' ⟨s0, s1, s2, s3, s4, s5, s6, s7, s8, s9, s10, s11⟩
             go_simp; (with_reducible rfl)
           rotate_left
           · simp only [Act.put, pa3_1, pa3_2, pa3_3, i64_w, i32_w]
             rfl
           refine pure_ (i := 22) (N := some 39) (v := ?_) (a' := ?_) m3_27 rfl rfl (any_of HT_.out (by kernel_rfl)) (fun _ _ _ h => h) (Or.inl ⟨by rfl, ?_⟩) ?_ ?_; rotate_left
           · intro w'
             go_simp; (with_reducible rfl)
           rotate_left
           · simp only [Act.put, pa3_1, pa3_2, pa3_3, i64_w, i32_w]
             rfl
           refine pure_ (i := 23) (N := some 40) (v := ?_) (a' := ?_) m3_28 rfl rfl (any_of HT_.out (by kernel_rfl)) (fun _ _ _ h => h) (Or.inl ⟨by rfl, ?_⟩) ?_ ?_; rotate_left
           · intro w'
             go_simp; (with_reducible rfl)
           rotate_left
           · simp only [Act.put, pa3_1, pa3_2, pa3_3, i64_w, i32_w]
             rfl
           refine pure_ (i := 24) (N := some 41) (v := ?_) (a' := ?_) m3_29 rfl rfl (any_of HT_.out (by kernel_rfl)) (fun _ _ _ h => h) (Or.inl ⟨by rfl, ?_⟩) ?_ ?_; rotate_left
           · intro w'
             go_simp; (with_reducible rfl)
           rotate_left
           · simp only [Act.put, pa3_1, pa3_2, pa3_3, i64_w, i32_w]
             rfl
           refine pure_ (i := 25) (N := some 42) (v := undef) (a' := ?_) m3_30 rfl rfl (any_of HT_.out (by kernel_rfl)) (fun _ _ _ h => h) (Or.inr ⟨by rfl, rfl⟩) ?_ ?_; rotate_left
           · simp only [Act.put, pa3_1, pa3_2, pa3_3, i64_w, i32_w]
             rfl
           refine pure_ (i := 26) (N := some 43) (v := undef) (a' := ?_) m3_31 rfl rfl (any_of HT_.out (by kernel_rfl)) (fun _ _ _ h => h) (Or.inr ⟨by rfl, rfl⟩) ?_ ?_; rotate_left
           · simp only [Act.put, pa3_1, pa3_2, pa3_3, i64_w, i32_w]
             rfl
           refine pure_ (i := 27) (N := some 44) (v := undef) (a' := ?_) m3_32 rfl rfl (any_of HT_.out (by kernel_rfl)) (fun _ _ _ h => h) (Or.inr ⟨by rfl, rfl⟩) ?_ ?_; rotate_left
           · simp only [Act.put, pa3_1, pa3_2, pa3_3, i64_w, i32_w]
             rfl
           refine pure_ (i := 28) (N := some 45) (v := undef) (a' := ?_) m3_33 rfl rfl (any_of HT_.out (by kernel_rfl)) (fun _ _ _ h => h) (Or.inr ⟨by rfl, rfl⟩) ?_ ?_; rotate_left
           · simp only [Act.put, pa3_1, pa3_2, pa3_3, i64_w, i32_w]
             rfl
           refine pure_ (i := 29) (N := some 46) (v := undef) (a' := ?_) m3_38 rfl rfl (any_of HT_.out (by kernel_rfl)) (fun _ _ _ h => h) (Or.inr ⟨by rfl, rfl⟩) ?_ ?_; rotate_left
           · simp only [Act.put, pa3_1, pa3_2, pa3_3, i64_w, i32_w]
             rfl
           refine pure_ (i := 30) (N := some 47) (v := undef) (a' := ?_) m3_39 rfl rfl (any_of HT_.out (by kernel_rfl)) (fun _ _ _ h => h) (Or.inr ⟨by rfl, rfl⟩) ?_ ?_; rotate_left
           · simp only [Act.put, pa3_1, pa3_2, pa3_3, i64_w, i32_w]
             rfl
           refine pure_ (i := 31) (N := some 48) (v := undef) (a' := ?_) m3_40 rfl rfl (any_of HT_.out (by kernel_rfl)) (fun _ _ _ h => h) (Or.inr ⟨by rfl, rfl⟩) ?_ ?_; rotate_left
           · simp only [Act.put, pa3_1, pa3_2, pa3_3, i64_w, i32_w]
             rfl
           refine pure_ (i := 32) (N := some 49) (v := undef) (a' := ?_) m3_41 rfl rfl (any_of HT_.out (by kernel_rfl)) (fun _ _ _ h => h) (Or.inr ⟨by rfl, rfl⟩) ?_ ?_; rotate_left
           · simp only [Act.put, pa3_1, pa3_2, pa3_3, i64_w, i32_w]
             rfl
           refine pure_ (i := 33) (N := some 50) (v := undef) (a' := ?_) m3_42 rfl rfl (any_of HT_.out (by kernel_rfl)) (fun _ _ _ h => h) (Or.inr ⟨by rfl, rfl⟩) ?_ ?_; rotate_left
           · simp only [Act.put, pa3_1, pa3_2, pa3_3, i64_w, i32_w]
             rfl
           refine pure_ (i := 34) (N := some 51) (v := undef) (a' := ?_) m3_43 rfl rfl (any_of HT_.out (by kernel_rfl)) (fun _ _ _ h => h) (Or.inr ⟨by rfl, rfl⟩) ?_ ?_; rotate_left
           · simp only [Act.put, pa3_1, pa3_2, pa3_3, i64_w, i32_w]
             rfl
           refine pure_ (i := 35) (N := some 52) (v := undef) (a' := ?_) m3_44 rfl rfl (any_of HT_.out (by kernel_rfl)) (fun _ _ _ h => h) (Or.inr ⟨by rfl, rfl⟩) ?_ ?_; rotate_left
           · simp only [Act.put, pa3_1, pa3_2, pa3_3, i64_w, i32_w]
             rfl
           refine pure_ (i := 36) (N := some 53) (v := ?_) (a' := ?_) m3_45 rfl rfl (any_of HT_.out (by kernel_rfl)) (fun _ _ _ h => h) (Or.inl ⟨by rfl, ?_⟩) ?_ ?_; rotate_left
           · intro w'
             go_simp; (with_reducible rfl)
           rotate_left
           · simp only [Act.put, pa3_1, pa3_2, pa3_3, i64_w, i32_w]
             rfl
           refine pure_ (i := 37) (N := some 54) (v := ?_) (a' := ?_) m3_46 rfl rfl (any_of HT_.out (by kernel_rfl)) (fun _ _ _ h => h) (Or.inl ⟨by rfl, ?_⟩) ?_ ?_; rotate_left
           · intro w'
             go_simp; (with_reducible rfl)
           rotate_left
           · simp only [Act.put, pa3_1, pa3_2, pa3_3, i64_w, i32_w]
             rfl
           refine pure_ (i := 38) (N := some 55) (v := undef) (a' := ?_) m3_47 rfl rfl (any_of HT_.out (by kernel_rfl)) (fun _ _ _ h => h) (Or.inr ⟨by rfl, rfl⟩) ?_ ?_; rotate_left
           · simp only [Act.put, pa3_1, pa3_2, pa3_3, i64_w, i32_w]
             rfl
           refine pure_ (i := 39) (N := some 56) (v := undef) (a' := ?_) m3_48 rfl rfl (any_of HT_.out (by kernel_rfl)) (fun _ _ _ h => h) (Or.inr ⟨by rfl, rfl⟩) ?_ ?_; rotate_left
           · simp only [Act.put, pa3_1, pa3_2, pa3_3, i64_w, i32_w]
             rfl
           refine pure_ (i := 40) (N := some 57) (v := undef) (a' := ?_) m3_49 rfl rfl (any_of HT_.out (by kernel_rfl)) (fun _ _ _ h => h) (Or.inr ⟨by rfl, rfl⟩) ?_ ?_; rotate_left
           · simp only [Act.put, pa3_1, pa3_2, pa3_3, i64_w, i32_w]
             rfl
           refine pure_ (i := 41) (N := some 58) (v := undef) (a' := ?_) m3_50 rfl rfl (any_of HT_.out (by kernel_rfl)) (fun _ _ _ h => h) (Or.inr ⟨by rfl, rfl⟩) ?_ ?_; rotate_left
           · simp only [Act.put, pa3_1, pa3_2, pa3_3, i64_w, i32_w]
             rfl
           refine pure_ (i := 42) (N := some 59) (v := undef) (a' := ?_) m3_55 rfl rfl (any_of HT_.out (by kernel_rfl)) (fun _ _ _ h => h) (Or.inr ⟨by rfl, rfl⟩) ?_ ?_; rotate_left
           · simp only [Act.put, pa3_1, pa3_2, pa3_3, i64_w, i32_w]
             rfl
           refine pure_ (i := 43) (N := some 60) (v := undef) (a' := ?_) m3_56 rfl rfl (any_of HT_.out (by kernel_rfl)) (fun _ _ _ h => h) (Or.inr ⟨by rfl, rfl⟩) ?_ ?_; rotate_left
           · simp only [Act.put, pa3_1, pa3_2, pa3_3, i64_w, i32_w]
             rfl
           refine pure_ (i := 44) (N := some 61) (v := undef) (a' := ?_) m3_57 rfl rfl (any_of HT_.out (by kernel_rfl)) (fun _ _ _ h => h) (Or.inr ⟨by rfl, rfl⟩) ?_ ?_; rotate_left
           · simp only [Act.put, pa3_1, pa3_2, pa3_3, i64_w, i32_w]
             rfl
           refine pure_ (i := 45) (N := some 62) (v := undef) (a' := ?_) m3_58 rfl rfl (any_of HT_.out (by kernel_rfl)) (fun _ _ _ h => h) (Or.inr ⟨by rfl, rfl⟩) ?_ ?_; rotate_left
           · simp only [Act.put, pa3_1, pa3_2, pa3_3, i64_w, i32_w]
             rfl
           refine pure_ (i := 46) (N := some 63) (v := undef) (a' := ?_) m3_59 rfl rfl (any_of HT_.out (by kernel_rfl)) (fun _ _ _ h => h) (Or.inr ⟨by rfl, rfl⟩) ?_ ?_; rotate_left
           · simp only [Act.put, pa3_1, pa3_2, pa3_3, i64_w, i32_w]
             rfl
           refine pure_ (i := 47) (N := some 64) (v := undef) (a' := ?_) m3_60 rfl rfl (any_of HT_.out (by kernel_rfl)) (fun _ _ _ h => h) (Or.inr ⟨by rfl, rfl⟩) ?_ ?_; rotate_left
           · simp only [Act.put, pa3_1, pa3_2, pa3_3, i64_w, i32_w]
             rfl
           refine pure_ (i := 48) (N := some 65) (v := undef) (a' := ?_) m3_61 rfl rfl (any_of HT_.out (by kernel_rfl)) (fun _ _ _ h => h) (Or.inr ⟨by rfl, rfl⟩) ?_ ?_; rotate_left
           · simp only [Act.put, pa3_1, pa3_2, pa3_3, i64_w, i32_w]
             rfl
           refine pure_ (i := 49) (N := some 66) (v := ?_) (a' := ?_) m3_62 rfl rfl (any_of HT_.out (by kernel_rfl)) (fun _ _ _ h => h) (Or.inl ⟨by rfl, ?_⟩) ?_ ?_; rotate_left
           · intro w'
             go_simp; (with_reducible rfl)
           rotate_left
           · simp only [Act.put, pa3_1, pa3_2, pa3_3, i64_w, i32_w]
             rfl
           refine pure_ (i := 50) (N := some 67) (v := ?_) (a' := ?_) m3_63 rfl rfl (any_of HT_.out (by kernel_rfl)) (fun _ _ _ h => h) (Or.inl ⟨by rfl, ?_⟩) ?_ ?_; rotate_left
           · intro w'
             go_simp; (with_reducible rfl)
           rotate_left
           · simp only [Act.put, pa3_1, pa3_2, pa3_3, i64_w, i32_w]
             rfl
           refine pure_ (i := 51) (N := some 68) (v := undef) (a' := ?_) m3_64 rfl rfl (any_of HT_.out (by kernel_rfl)) (fun _ _ _ h => h) (Or.inr ⟨by rfl, rfl⟩) ?_ ?_; rotate_left
           · simp only [Act.put, pa3_1, pa3_2, pa3_3, i64_w, i32_w]
             rfl
           refine pure_ (i := 52) (N := some 69) (v := undef) (a' := ?_) m3_65 rfl rfl (any_of HT_.out (by kernel_rfl)) (fun _ _ _ h => h) (Or.inr ⟨by rfl, rfl⟩) ?_ ?_; rotate_left
           · simp only [Act.put, pa3_1, pa3_2, pa3_3, i64_w, i32_w]
             rfl
           refine pure_ (i := 53) (N := some 70) (v := undef) (a' := ?_) m3_66 rfl rfl (any_of HT_.out (by kernel_rfl)) (fun _ _ _ h => h) (Or.inr ⟨by rfl, rfl⟩) ?_ ?_; rotate_left
           · simp only [Act.put, pa3_1, pa3_2, pa3_3, i64_w, i32_w]
             rfl
           refine pure_ (i := 54) (N := some 71) (v := undef) (a' := ?_) m3_67 rfl rfl (any_of HT_.out (by kernel_rfl)) (fun _ _ _ h => h) (Or.inr ⟨by rfl, rfl⟩) ?_ ?_; rotate_left
           · simp only [Act.put, pa3_1, pa3_2, pa3_3, i64_w, i32_w]
             rfl
           refine pure_ (i := 55) (N := some 72) (v := undef) (a' := ?_) m3_72 rfl rfl (any_of HT_.out (by kernel_rfl)) (fun _ _ _ h => h) (Or.inr ⟨by rfl, rfl⟩) ?_ ?_; rotate_left
           · simp only [Act.put, pa3_1, pa3_2, pa3_3, i64_w, i32_w]
             rfl
           refine pure_ (i := 56) (N := some 73) (v := undef) (a' := ?_) m3_73 rfl rfl (any_of HT_.out (by kernel_rfl)) (fun _ _ _ h => h) (Or.inr ⟨by rfl, rfl⟩) ?_ ?_; rotate_left
           · simp only [Act.put, pa3_1, pa3_2, pa3_3, i64_w, i32_w]
             rfl
           refine pure_ (i := 57) (N := some 74) (v := undef) (a' := ?_) m3_74 rfl rfl (any_of HT_.out (by kernel_rfl)) (fun _ _ _ h => h) (Or.inr ⟨by rfl, rfl⟩) ?_ ?_; rotate_left
           · simp only [Act.put, pa3_1, pa3_2, pa3_3, i64_w, i32_w]
             rfl
           refine pure_ (i := 58) (N := some 75) (v := undef) (a' := ?_) m3_75 rfl rfl (any_of HT_.out (by kernel_rfl)) (fun _ _ _ h => h) (Or.inr ⟨by rfl, rfl⟩) ?_ ?_; rotate_left
           · simp only [Act.put, pa3_1, pa3_2, pa3_3, i64_w, i32_w]
             rfl
           refine pure_ (i := 59) (N := some 76) (v := undef) (a' := ?_) m3_76 rfl rfl (any_of HT_.out (by kernel_rfl)) (fun _ _ _ h => h) (Or.inr ⟨by rfl, rfl⟩) ?_ ?_; rotate_left
           · simp only [Act.put, pa3_1, pa3_2, pa3_3, i64_w, i32_w]
             rfl
           refine pure_ (i := 60) (N := some 77) (v := undef) (a' := ?_) m3_77 rfl rfl (any_of HT_.out (by kernel_rfl)) (fun _ _ _ h => h) (Or.inr ⟨by rfl, rfl⟩) ?_ ?_; rotate_left
           · simp only [Act.put, pa3_1, pa3_2, pa3_3, i64_w, i32_w]
             rfl
           refine pure_ (i := 61) (N := some 78) (v := undef) (a' := ?_) m3_78 rfl rfl (any_of HT_.out (by kernel_rfl)) (fun _ _ _ h => h) (Or.inr ⟨by rfl, rfl⟩) ?_ ?_; rotate_left
           · simp only [Act.put, pa3_1, pa3_2, pa3_3, i64_w, i32_w]
             rfl
           refine pure_ (i := 62) (N := some 79) (v := ?_) (a' := ?_) m3_79 rfl rfl (any_of HT_.out (by kernel_rfl)) (fun _ _ _ h => h) (Or.inl ⟨by rfl, ?_⟩) ?_ ?_; rotate_left
           · intro w'
             go_simp; (with_reducible rfl)
           rotate_left
           · simp only [Act.put, pa3_1, pa3_2, pa3_3, i64_w, i32_w]
             rfl
           refine pure_ (i := 63) (N := some 80) (v := ?_) (a' := ?_) m3_80 rfl rfl (any_of HT_.out (by kernel_rfl)) (fun _ _ _ h => h) (Or.inl ⟨by rfl, ?_⟩) ?_ ?_; rotate_left
           · intro w'
             go_simp; (with_reducible rfl)
           rotate_left
           · simp only [Act.put, pa3_1, pa3_2, pa3_3, i64_w, i32_w]
             rfl
           refine pure_ (i := 64) (N := some 81) (v := undef) (a' := ?_) m3_81 rfl rfl (any_of HT_.out (by kernel_rfl)) (fun _ _ _ h => h) (Or.inr ⟨by rfl, rfl⟩) ?_ ?_; rotate_left
           · simp only [Act.put, pa3_1, pa3_2, pa3_3, i64_w, i32_w]
             rfl
           refine pure_ (i := 65) (N := some 82) (v := undef) (a' := ?_) m3_82 rfl rfl (any_of HT_.out (by kernel_rfl)) (fun _ _ _ h => h) (Or.inr ⟨by rfl, rfl⟩) ?_ ?_; rotate_left
           · simp only [Act.put, pa3_1, pa3_2, pa3_3, i64_w, i32_w]
             rfl
           refine pure_ (i := 66) (N := some 83) (v := undef) (a' := ?_) m3_83 rfl rfl (any_of HT_.out (by kernel_rfl)) (fun _ _ _ h => h) (Or.inr ⟨by rfl, rfl⟩) ?_ ?_; rotate_left
           · simp only [Act.put, pa3_1, pa3_2, pa3_3, i64_w, i32_w]
             rfl
           refine pure_ (i := 67) (N := some 84) (v := undef) (a' := ?_) m3_84 rfl rfl (any_of HT_.out (by kernel_rfl)) (fun _ _ _ h => h) (Or.inr ⟨by rfl, rfl⟩) ?_ ?_; rotate_left
           · simp only [Act.put, pa3_1, pa3_2, pa3_3, i64_w, i32_w]
             rfl
           refine pure_ (i := 68) (N := some 85) (v := undef) (a' := ?_) m3_89 rfl rfl (any_of HT_.out (by kernel_rfl)) (fun _ _ _ h => h) (Or.inr ⟨by rfl, rfl⟩) ?_ ?_; rotate_left
           · simp only [Act.put, pa3_1, pa3_2, pa3_3, i64_w, i32_w]
             rfl
           refine pure_ (i := 69) (N := some 86) (v := undef) (a' := ?_) m3_90 rfl rfl (any_of HT_.out (by kernel_rfl)) (fun _ _ _ h => h) (Or.inr ⟨by rfl, rfl⟩) ?_ ?_; rotate_left
           · simp only [Act.put, pa3_1, pa3_2, pa3_3, i64_w, i32_w]
             rfl
           refine pure_ (i := 70) (N := some 87) (v := undef) (a' := ?_) m3_91 rfl rfl (any_of HT_.out (by kernel_rfl)) (fun _ _ _ h => h) (Or.inr ⟨by rfl, rfl⟩) ?_ ?_; rotate_left
           · simp only [Act.put, pa3_1, pa3_2, pa3_3, i64_w, i32_w]
             rfl
           refine pure_ (i := 71) (N := some 88) (v := undef) (a' := ?_) m3_92 rfl rfl (any_of HT_.out (by kernel_rfl)) (fun _ _ _ h => h) (Or.inr ⟨by rfl, rfl⟩) ?_ ?_; rotate_left
           · simp only [Act.put, pa3_1, pa3_2, pa3_3, i64_w, i32_w]
             rfl
           refine pure_ (i := 72) (N := some 89) (v := undef) (a' := ?_) m3_93 rfl rfl (any_of HT_.out (by kernel_rfl)) (fun _ _ _ h => h) (Or.inr ⟨by rfl, rfl⟩) ?_ ?_; rotate_left
           · simp only [Act.put, pa3_1, pa3_2, pa3_3, i64_w, i32_w]
             rfl
           refine pure_ (i := 73) (N := some 90) (v := undef) (a' := ?_) m3_94 rfl rfl (any_of HT_.out (by kernel_rfl)) (fun _ _ _ h => h) (Or.inr ⟨by rfl, rfl⟩) ?_ ?_; rotate_left
           · simp only [Act.put, pa3_1, pa3_2, pa3_3, i64_w, i32_w]
             rfl
           refine pure_ (i := 74) (N := some 91) (v := undef) (a' := ?_) m3_95 rfl rfl (any_of HT_.out (by kernel_rfl)) (fun _ _ _ h => h) (Or.inr ⟨by rfl, rfl⟩) ?_ ?_; rotate_left
           · simp only [Act.put, pa3_1, pa3_2, pa3_3, i64_w, i32_w]
             rfl
           refine pure_ (i := 75) (N := some 92) (v := undef) (a' := ?_) m3_96 rfl rfl (any_of HT_.out (by kernel_rfl)) (fun _ _ _ h => h) (Or.inr ⟨by rfl, rfl⟩) ?_ ?_; rotate_left
           · simp only [Act.put, pa3_1, pa3_2, pa3_3, i64_w, i32_w]
             rfl
           refine pure_ (i := 76) (N := some 93) (v := ?_) (a' := ?_) m3_97 rfl rfl (any_of HT_.out (by kernel_rfl)) (fun _ _ _ h => h) (Or.inl ⟨by rfl, ?_⟩) ?_ ?_; rotate_left
           · intro w'
             go_simp; (with_reducible rfl)
           rotate_left
           · simp only [Act.put, pa3_1, pa3_2, pa3_3, i64_w, i32_w]
             rfl
           refine done_ (done_of HT_.out (by kernel_rfl)) ?_
           try go_wp2
           go_meet
           case rel => exact ⟨_, (true), d3_2, H', ⟨by have := HK1.out; first | omega | exact Nat.le_refl _⟩, ⟨c3_1⟩⟩
         ·rw [if_neg c8] at H
          have c8b0 : (((rd_T34 l0 x5_1).f0) == ((rd_T34 l1 x5_1).f0)) = false := beq_eq_false_iff_ne.mpr c8; have c8b1 : (((rd_T34 l0 x5_1).f0) != ((rd_T34 l1 x5_1).f0)) = true := bne_iff_ne.mpr c8; have H' := ak H; clear H
          try go_wp2
          have n0_ := ak (below_drew1 HB.out); clear HB; have HB := n0_; clear n0_; have p110 : 0 ≤ (x5_1 : Int) := of_decide_eq_true d3_1; have q110 : x5_1 < (l0.length : Int) := of_decide_eq_true d3_1; obtain ⟨ad110, A110_5, c110_5, e110, hx110_0, hx110_1, hx110_2, hx110_3, hx110_4, hx110_5, hl110_5, hi110_5⟩ := at_T34 HR0.out x5_1 p110 q110; have hw110_5 := hx110_5; have hw110_4 := hx110_4; have hw110_3 := hx110_3; have hw110_2 := hx110_2; have hw110_1 := hx110_1; have hw110_0 := hx110_0
          cases e110
          replace hx110_0 := (HB.out.cell (World.block_lt_of_cell? w _ hx110_0)).trans hx110_0; replace hx110_1 := (HB.out.cell (World.block_lt_of_cell? w _ hx110_1)).trans hx110_1; replace hx110_2 := (HB.out.cell (World.block_lt_of_cell? w _ hx110_2)).trans hx110_2; replace hx110_3 := (HB.out.cell (World.block_lt_of_cell? w _ hx110_3)).trans hx110_3; replace hx110_4 := (HB.out.cell (World.block_lt_of_cell? w _ hx110_4)).trans hx110_4; replace hx110_5 := (HB.out.cell (World.block_lt_of_cell? w _ hx110_5)).trans hx110_5; have HR110_5 := ak hi110_5; have HC110_5 := ak hl110_5; clear hi110_5 hl110_5; replace p110 := eq_true p110; replace q110 := eq_true q110; have p111 : 0 ≤ (x5_1 : Int) := of_decide_eq_true d3_1; have q111 : x5_1 < (l1.length : Int) := of_decide_eq_true d3_1; obtain ⟨ad111, A111_5, c111_5, e111, hx111_0, hx111_1, hx111_2, hx111_3, hx111_4, hx111_5, hl111_5, hi111_5⟩ := at_T34 HR1.out x5_1 p111 q111; have hw111_5 := hx111_5; have hw111_4 := hx111_4; have hw111_3 := hx111_3; have hw111_2 := hx111_2; have hw111_1 := hx111_1; have hw111_0 := hx111_0
          cases e111
          replace hx111_0 := (HB.out.cell (World.block_lt_of_cell? w _ hx111_0)).trans hx111_0; replace hx111_1 := (HB.out.cell (World.block_lt_of_cell? w _ hx111_1)).trans hx111_1; replace hx111_2 := (HB.out.cell (World.block_lt_of_cell? w _ hx111_2)).trans hx111_2; replace hx111_3 := (HB.out.cell (World.block_lt_of_cell? w _ hx111_3)).trans hx111_3; replace hx111_4 := (HB.out.cell (World.block_lt_of_cell? w _ hx111_4)).trans hx111_4; replace hx111_5 := (HB.out.cell (World.block_lt_of_cell? w _ hx111_5)).trans hx111_5; have HR111_5 := ak hi111_5; have HC111_5 := ak hl111_5; clear hi111_5 hl111_5; replace p111 := eq_true p111; replace q111 := eq_true q111
          refine start_ (n := 77) (S := fun w' => w'.cell? (ad110.add ((x5_1).toNat * 6)) = some (.int .i64 ((rd_T34 l0 x5_1).f0)) ∧ w'.cell? ⟨(ad110.add ((x5_1).toNat * 6)).block, (ad110.add ((x5_1).toNat * 6)).off + 1, none⟩ = some (.int .i64 ((rd_T34 l0 x5_1).f1)) ∧ w'.cell? ⟨(ad110.add ((x5_1).toNat * 6)).block, (ad110.add ((x5_1).toNat * 6)).off + 2, none⟩ = some (.int .i64 ((rd_T34 l0 x5_1).f2)) ∧ w'.cell? ⟨(ad110.add ((x5_1).toNat * 6)).block, (ad110.add ((x5_1).toNat * 6)).off + 3, none⟩ = some (.int .i64 ((rd_T34 l0 x5_1).f3)) ∧ w'.cell? ⟨(ad110.add ((x5_1).toNat * 6)).block, (ad110.add ((x5_1).toNat * 6)).off + 4, none⟩ = some (.string ((rd_T34 l0 x5_1).f4)) ∧ w'.cell? ⟨(ad110.add ((x5_1).toNat * 6)).block, (ad110.add ((x5_1).toNat * 6)).off + 5, none⟩ = some (.slice A110_5 ((rd_T34 l0 x5_1).f5).length c110_5) ∧ w'.cell? (ad111.add ((x5_1).toNat * 6)) = some (.int .i64 ((rd_T34 l1 x5_1).f0)) ∧ w'.cell? ⟨(ad111.add ((x5_1).toNat * 6)).block, (ad111.add ((x5_1).toNat * 6)).off + 1, none⟩ = some (.int .i64 ((rd_T34 l1 x5_1).f1)) ∧ w'.cell? ⟨(ad111.add ((x5_1).toNat * 6)).block, (ad111.add ((x5_1).toNat * 6)).off + 2, none⟩ = some (.int .i64 ((rd_T34 l1 x5_1).f2)) ∧ w'.cell? ⟨(ad111.add ((x5_1).toNat * 6)).block, (ad111.add ((x5_1).toNat * 6)).off + 3, none⟩ = some (.int .i64 ((rd_T34 l1 x5_1).f3)) ∧ w'.cell? ⟨(ad111.add ((x5_1).toNat * 6)).block, (ad111.add ((x5_1).toNat * 6)).off + 4, none⟩ = some (.string ((rd_T34 l1 x5_1).f4)) ∧ w'.cell? ⟨(ad111.add ((x5_1).toNat * 6)).block, (ad111.add ((x5_1).toNat * 6)).off + 5, none⟩ = some (.slice A111_5 ((rd_T34 l1 x5_1).f5).length c111_5)) (ds := []) m3_0 (by kernel_rfl) rfl rfl ⟨((HB.out.cell (World.block_lt_of_cell? w _ hw110_0)).trans hw110_0), ((HB.out.cell (World.block_lt_of_cell? w _ hw110_1)).trans hw110_1), ((HB.out.cell (World.block_lt_of_cell? w _ hw110_2)).trans hw110_2), ((HB.out.cell (World.block_lt_of_cell? w _ hw110_3)).trans hw110_3), ((HB.out.cell (World.block_lt_of_cell? w _ hw110_4)).trans hw110_4), ((HB.out.cell (World.block_lt_of_cell? w _ hw110_5)).trans hw110_5), ((HB.out.cell (World.block_lt_of_cell? w _ hw111_0)).trans hw111_0), ((HB.out.cell (World.block_lt_of_cell? w _ hw111_1)).trans hw111_1), ((HB.out.cell (World.block_lt_of_cell? w _ hw111_2)).trans hw111_2), ((HB.out.cell (World.block_lt_of_cell? w _ hw111_3)).trans hw111_3), ((HB.out.cell (World.block_lt_of_cell? w _ hw111_4)).trans hw111_4), ((HB.out.cell (World.block_lt_of_cell? w _ hw111_5)).trans hw111_5)⟩ (fun hHeld => ?_); refine with_tabW spec_SameCores.tab6 spec_SameCores.bits6 (fun HT_ HW_ => ?_)
          generalize wr.drew = w19 at HB HR110_5 HR111_5 hx110_0 hx110_1 hx110_2 hx110_3 hx110_4 hx110_5 hx111_0 hx111_1 hx111_2 hx111_3 hx111_4 hx111_5 hHeld ⊢; refine pure_ (i := 0) (N := some 17) (v := ?_) (a' := ?_) m3_1 rfl rfl (any_of HT_.out (by kernel_rfl)) (fun _ _ _ h => h) (Or.inl ⟨by rfl, ?_⟩) ?_ ?_; rotate_left
          · intro w'
            go_simp; (with_reducible rfl)
          rotate_left
          · simp only [Act.put, pa3_1, pa3_2, pa3_3, i64_w, i32_w]
            rfl
          refine pure_ (i := 1) (N := some 18) (v := ?_) (a' := ?_) m3_2 rfl rfl (any_of HT_.out (by kernel_rfl)) (fun _ _ _ h => h) (Or.inl ⟨by rfl, ?_⟩) ?_ ?_; rotate_left
          · intro w'
            go_simp; (with_reducible rfl)
          rotate_left
          · simp only [Act.put, pa3_1, pa3_2, pa3_3, i64_w, i32_w]
            rfl
          refine pure_ (i := 2) (N := some 19) (v := ?_) (a' := ?_) m3_3 rfl rfl (any_of HT_.out (by kernel_rfl)) (fun _ _ _ h => h) (Or.inl ⟨by rfl, ?_⟩) ?_ ?_; rotate_left
          · intro w'
            go_simp; (with_reducible rfl)
          rotate_left
          · simp only [Act.put, pa3_1, pa3_2, pa3_3, i64_w, i32_w]
            rfl
          refine pure_ (i := 3) (N := some 20) (v := ?_) (a' := ?_) m3_4 rfl rfl (any_of HT_.out (by kernel_rfl)) (fun _ _ _ h => h) (Or.inl ⟨by rfl, ?_⟩) ?_ ?_; rotate_left
          · intro w'
            go_simp; (with_reducible rfl)
          rotate_left
          · simp only [Act.put, pa3_1, pa3_2, pa3_3, i64_w, i32_w]
            rfl
          refine pure_ (i := 5) (N := some 22) (v := ?_) (a' := ?_) m3_5 rfl rfl (any_of HT_.out (by kernel_rfl)) (fun _ _ _ h => h) (Or.inl ⟨by rfl, ?_⟩) ?_ ?_; rotate_left
          · intro w'
            go_simp; (with_reducible rfl)
          rotate_left
          · simp only [Act.put, pa3_1, pa3_2, pa3_3, i64_w, i32_w]
            rfl
          refine pure_ (i := 6) (N := some 23) (v := ?_) (a' := ?_) m3_6 rfl rfl (any_of HT_.out (by kernel_rfl)) (fun _ _ _ h => h) (Or.inl ⟨by rfl, ?_⟩) ?_ ?_; rotate_left
          · intro w'
            go_simp; (with_reducible rfl)
          rotate_left
          · simp only [Act.put, pa3_1, pa3_2, pa3_3, i64_w, i32_w]
            rfl
          refine pure_ (i := 7) (N := some 24) (v := ?_) (a' := ?_) m3_7 rfl rfl (any_of HT_.out (by kernel_rfl)) (fun _ _ _ h => h) (Or.inl ⟨by rfl, ?_⟩) ?_ ?_; rotate_left
          · intro w'
            go_simp; (with_reducible rfl)
          rotate_left
          · simp only [Act.put, pa3_1, pa3_2, pa3_3, i64_w, i32_w]
            rfl
          refine pure_ (i := 8) (N := some 25) (v := ?_) (a' := ?_) m3_8 rfl rfl (any_of HT_.out (by kernel_rfl)) (fun _ _ _ h => h) (Or.inl ⟨by rfl, ?_⟩) ?_ ?_; rotate_left
          · intro w'
            go_simp; (with_reducible rfl)
          rotate_left
          · simp only [Act.put, pa3_1, pa3_2, pa3_3, i64_w, i32_w]
            rfl
          refine take_ (i := 4) (N := some 21) (v := ?_) (a' := ?_) m3_9 rfl rfl (take_ofW HT_.out HW_.out (by kernel_rfl)) (fun _ _ _ h => h) (Or.inl ⟨by rfl, ?_⟩) hHeld ?_ ?_; rotate_left
          · rintro w' ⟨s0, s1, s2, s3, s4, s5, s6, s7, s8, s9, s10, s11⟩
            go_simp; (with_reducible rfl)
          rotate_left
          · simp only [Act.put, pa3_1, pa3_2, pa3_3, i64_w, i32_w]
            rfl
          refine take_ (i := 9) (N := some 26) (v := ?_) (a' := ?_) m3_10 rfl rfl (take_ofW HT_.out HW_.out (by kernel_rfl)) (fun _ _ _ h => h) (Or.inl ⟨by rfl, ?_⟩) hHeld ?_ ?_; rotate_left
          · rintro w' ⟨s0, s1, s2, s3, s4, s5, s6, s7, s8, s9, s10, s11⟩
            go_simp; (with_reducible rfl)
          rotate_left
          · simp only [Act.put, pa3_1, pa3_2, pa3_3, i64_w, i32_w]
            rfl
          refine pure_ (i := 10) (N := some 27) (v := ?_) (a' := ?_) m3_11 rfl rfl (any_of HT_.out (by kernel_rfl)) (fun _ _ _ h => h) (Or.inl ⟨by rfl, ?_⟩) ?_ ?_; rotate_left
          · intro w'
            go_simp; (with_reducible rfl)
          rotate_left
          · simp only [Act.put, pa3_1, pa3_2, pa3_3, i64_w, i32_w]
            rfl
          refine pure_ (i := 11) (N := some 28) (v := ?_) (a' := ?_) m3_12 rfl rfl (any_of HT_.out (by kernel_rfl)) (fun _ _ _ h => h) (Or.inl ⟨by rfl, ?_⟩) ?_ ?_; rotate_left
          · intro w'
            go_simp; (with_reducible rfl)
          rotate_left
          · simp only [Act.put, pa3_1, pa3_2, pa3_3, i64_w, i32_w]
            rfl
          refine pure_ (i := 12) (N := some 29) (v := undef) (a' := ?_) m3_13 rfl rfl (any_of HT_.out (by kernel_rfl)) (fun _ _ _ h => h) (Or.inr ⟨by rfl, rfl⟩) ?_ ?_; rotate_left
          · simp only [Act.put, pa3_1, pa3_2, pa3_3, i64_w, i32_w]
            rfl
          refine pure_ (i := 13) (N := some 30) (v := undef) (a' := ?_) m3_14 rfl rfl (any_of HT_.out (by kernel_rfl)) (fun _ _ _ h => h) (Or.inr ⟨by rfl, rfl⟩) ?_ ?_; rotate_left
          · simp only [Act.put, pa3_1, pa3_2, pa3_3, i64_w, i32_w]
            rfl
          refine pure_ (i := 14) (N := some 31) (v := undef) (a' := ?_) m3_15 rfl rfl (any_of HT_.out (by kernel_rfl)) (fun _ _ _ h => h) (Or.inr ⟨by rfl, rfl⟩) ?_ ?_; rotate_left
          · simp only [Act.put, pa3_1, pa3_2, pa3_3, i64_w, i32_w]
            rfl
          refine pure_ (i := 15) (N := some 32) (v := undef) (a' := ?_) m3_16 rfl rfl (any_of HT_.out (by kernel_rfl)) (fun _ _ _ h => h) (Or.inr ⟨by rfl, rfl⟩) ?_ ?_; rotate_left
          · simp only [Act.put, pa3_1, pa3_2, pa3_3, i64_w, i32_w]
            rfl
          refine pure_ (i := 16) (N := some 33) (v := undef) (a' := ?_) #[true, true, true, true, true, true, true, true, true, true, true, true, true, true, true, true, true, false, false, false, false, false, false, false, false, false, false, false, false, false, false, false, false, false, false, false, false, false, false, false, false, false, false, false, false, false, false, false, false, false, false, false, false, false, false, false, false, false, false, false, false, false, false, false, false, false, false, false, false, false, false, false, false, false, false, false, false] rfl rfl (any_of HT_.out (by kernel_rfl)) (fun _ _ _ h => h) (Or.inr ⟨by rfl, rfl⟩) ?_ ?_; rotate_left
          · simp only [Act.put, pa3_1, pa3_2, pa3_3, i64_w, i32_w]
            rfl
          refine pure_ (i := 17) (N := some 34) (v := undef) (a' := ?_) #[true, true, true, true, true, true, true, true, true, true, true, true, true, true, true, true, true, true, false, false, false, false, false, false, false, false, false, false, false, false, false, false, false, false, false, false, false, false, false, false, false, false, false, false, false, false, false, false, false, false, false, false, false, false, false, false, false, false, false, false, false, false, false, false, false, false, false, false, false, false, false, false, false, false, false, false, false] rfl rfl (any_of HT_.out (by kernel_rfl)) (fun _ _ _ h => h) (Or.inr ⟨by rfl, rfl⟩) ?_ ?_; rotate_left
          · simp only [Act.put, pa3_1, pa3_2, pa3_3, i64_w, i32_w]
            rfl
          refine pure_ (i := 18) (N := some 35) (v := undef) (a' := ?_) #[true, true, true, true, true, true, true, true, true, true, true, true, true, true, true, true, true, true, true, false, false, false, false, false, false, false, false, false, false, false, false, false, false, false, false, false, false, false, false, false, false, false, false, false, false, false, false, false, false, false, false, false, false, false, false, false, false, false, false, false, false, false, false, false, false, false, false, false, false, false, false, false, false, false, false, false, false] rfl rfl (any_of HT_.out (by kernel_rfl)) (fun _ _ _ h => h) (Or.inr ⟨by rfl, rfl⟩) ?_ ?_; rotate_left
          · simp only [Act.put, pa3_1, pa3_2, pa3_3, i64_w, i32_w]
            rfl
          refine pure_ (i := 19) (N := some 36) (v := undef) (a' := ?_) #[true, true, true, true, true, true, true, true, true, true, true, true, true, true, true, true, true, true, true, true, false, false, false, false, false, false, false, false, false, false, false, false, false, false, false, false, false, false, false, false, false, false, false, false, false, false, false, false, false, false, false, false, false, false, false, false, false, false, false, false, false, false, false, false, false, false, false, false, false, false, false, false, false, false, false, false, false] rfl rfl (any_of HT_.out (by kernel_rfl)) (fun _ _ _ h => h) (Or.inr ⟨by rfl, rfl⟩) ?_ ?_; rotate_left
          · simp only [Act.put, pa3_1, pa3_2, pa3_3, i64_w, i32_w]
            rfl
          refine pure_ (i := 20) (N := some 37) (v := undef) (a' := ?_) m3_25 rfl rfl (any_of HT_.out (by kernel_rfl)) (fun _ _ _ h => h) (Or.inr ⟨by rfl, rfl⟩) ?_ ?_; rotate_left
          · simp only [Act.put, pa3_1, pa3_2, pa3_3, i64_w, i32_w]
            rfl
          refine pure_ (i := 21) (N := some 38) (v := undef) (a' := ?_) m3_26 rfl rfl (any_of HT_.out (by kernel_rfl)) (fun _ _ _ h => h) (Or.inr ⟨by rfl, rfl⟩) ?_ ?_; rotate_left
          · simp only [Act.put, pa3_1, pa3_2, pa3_3, i64_w, i32_w]
            rfl
          refine pure_ (i := 22) (N := some 39) (v := undef) (a' := ?_) m3_27 rfl rfl (any_of HT_.out (by kernel_rfl)) (fun _ _ _ h => h) (Or.inr ⟨by rfl, rfl⟩) ?_ ?_; rotate_left
          · simp only [Act.put, pa3_1, pa3_2, pa3_3, i64_w, i32_w]
            rfl
          refine pure_ (i := 23) (N := some 40) (v := ?_) (a' := ?_) m3_28 rfl rfl (any_of HT_.out (by kernel_rfl)) (fun _ _ _ h => h) (Or.inl ⟨by rfl, ?_⟩) ?_ ?_; rotate_left
          · intro w'
            go_simp; (with_reducible rfl)
          rotate_left
          · simp only [Act.put, pa3_1, pa3_2, pa3_3, i64_w, i32_w]
            rfl
          refine pure_ (i := 24) (N := some 41) (v := ?_) (a' := ?_) m3_29 rfl rfl (any_of HT_.out (by kernel_rfl)) (fun _ _ _ h => h) (Or.inl ⟨by rfl, ?_⟩) ?_ ?_; rotate_left
          · intro w'
            go_simp; (with_reducible rfl)
          rotate_left
          · simp only [Act.put, pa3_1, pa3_2, pa3_3, i64_w, i32_w]
            rfl
          refine pure_ (i := 25) (N := some 42) (v := undef) (a' := ?_) m3_30 rfl rfl (any_of HT_.out (by kernel_rfl)) (fun _ _ _ h => h) (Or.inr ⟨by rfl, rfl⟩) ?_ ?_; rotate_left
          · simp only [Act.put, pa3_1, pa3_2, pa3_3, i64_w, i32_w]
            rfl
          refine pure_ (i := 26) (N := some 43) (v := undef) (a' := ?_) m3_31 rfl rfl (any_of HT_.out (by kernel_rfl)) (fun _ _ _ h => h) (Or.inr ⟨by rfl, rfl⟩) ?_ ?_; rotate_left
          · simp only [Act.put, pa3_1, pa3_2, pa3_3, i64_w, i32_w]
            rfl
          refine pure_ (i := 27) (N := some 44) (v := undef) (a' := ?_) m3_32 rfl rfl (any_of HT_.out (by kernel_rfl)) (fun _ _ _ h => h) (Or.inr ⟨by rfl, rfl⟩) ?_ ?_; rotate_left
          · simp only [Act.put, pa3_1, pa3_2, pa3_3, i64_w, i32_w]
            rfl
          refine pure_ (i := 28) (N := some 45) (v := undef) (a' := ?_) m3_33 rfl rfl (any_of HT_.out (by kernel_rfl)) (fun _ _ _ h => h) (Or.inr ⟨by rfl, rfl⟩) ?_ ?_; rotate_left
          · simp only [Act.put, pa3_1, pa3_2, pa3_3, i64_w, i32_w]
            rfl
          refine pure_ (i := 29) (N := some 46) (v := undef) (a' := ?_) m3_38 rfl rfl (any_of HT_.out (by kernel_rfl)) (fun _ _ _ h => h) (Or.inr ⟨by rfl, rfl⟩) ?_ ?_; rotate_left
          · simp only [Act.put, pa3_1, pa3_2, pa3_3, i64_w, i32_w]
            rfl
          refine pure_ (i := 30) (N := some 47) (v := undef) (a' := ?_) m3_39 rfl rfl (any_of HT_.out (by kernel_rfl)) (fun _ _ _ h => h) (Or.inr ⟨by rfl, rfl⟩) ?_ ?_; rotate_left
          · simp only [Act.put, pa3_1, pa3_2, pa3_3, i64_w, i32_w]
            rfl
          refine pure_ (i := 31) (N := some 48) (v := undef) (a' := ?_) m3_40 rfl rfl (any_of HT_.out (by kernel_rfl)) (fun _ _ _ h => h) (Or.inr ⟨by rfl, rfl⟩) ?_ ?_; rotate_left
          · simp only [Act.put, pa3_1, pa3_2, pa3_3, i64_w, i32_w]
            rfl
          refine pure_ (i := 32) (N := some 49) (v := undef) (a' := ?_) m3_41 rfl rfl (any_of HT_.out (by kernel_rfl)) (fun _ _ _ h => h) (Or.inr ⟨by rfl, rfl⟩) ?_ ?_; rotate_left
          · simp only [Act.put, pa3_1, pa3_2, pa3_3, i64_w, i32_w]
            rfl
          refine pure_ (i := 33) (N := some 50) (v := undef) (a' := ?_) m3_42 rfl rfl (any_of HT_.out (by kernel_rfl)) (fun _ _ _ h => h) (Or.inr ⟨by rfl, rfl⟩) ?_ ?_; rotate_left
          · simp only [Act.put, pa3_1, pa3_2, pa3_3, i64_w, i32_w]
            rfl
          refine pure_ (i := 34) (N := some 51) (v := undef) (a' := ?_) m3_43 rfl rfl (any_of HT_.out (by kernel_rfl)) (fun _ _ _ h => h) (Or.inr ⟨by rfl, rfl⟩) ?_ ?_; rotate_left
          · simp only [Act.put, pa3_1, pa3_2, pa3_3, i64_w, i32_w]
            rfl
          refine pure_ (i := 35) (N := some 52) (v := undef) (a' := ?_) m3_44 rfl rfl (any_of HT_.out (by kernel_rfl)) (fun _ _ _ h => h) (Or.inr ⟨by rfl, rfl⟩) ?_ ?_; rotate_left
          · simp only [Act.put, pa3_1, pa3_2, pa3_3, i64_w, i32_w]
            rfl
          refine pure_ (i := 36) (N := some 53) (v := ?_) (a' := ?_) m3_45 rfl rfl (any_of HT_.out (by kernel_rfl)) (fun _ _ _ h => h) (Or.inl ⟨by rfl, ?_⟩) ?_ ?_; rotate_left
          · intro w'
            go_simp; (with_reducible rfl)
          rotate_left
          · simp only [Act.put, pa3_1, pa3_2, pa3_3, i64_w, i32_w]
            rfl
          refine pure_ (i := 37) (N := some 54) (v := ?_) (a' := ?_) m3_46 rfl rfl (any_of HT_.out (by kernel_rfl)) (fun _ _ _ h => h) (Or.inl ⟨by rfl, ?_⟩) ?_ ?_; rotate_left
          · intro w'
            go_simp; (with_reducible rfl)
          rotate_left
          · simp only [Act.put, pa3_1, pa3_2, pa3_3, i64_w, i32_w]
            rfl
          refine pure_ (i := 38) (N := some 55) (v := undef) (a' := ?_) m3_47 rfl rfl (any_of HT_.out (by kernel_rfl)) (fun _ _ _ h => h) (Or.inr ⟨by rfl, rfl⟩) ?_ ?_; rotate_left
          · simp only [Act.put, pa3_1, pa3_2, pa3_3, i64_w, i32_w]
            rfl
          refine pure_ (i := 39) (N := some 56) (v := undef) (a' := ?_) m3_48 rfl rfl (any_of HT_.out (by kernel_rfl)) (fun _ _ _ h => h) (Or.inr ⟨by rfl, rfl⟩) ?_ ?_; rotate_left
          · simp only [Act.put, pa3_1, pa3_2, pa3_3, i64_w, i32_w]
            rfl
          refine pure_ (i := 40) (N := some 57) (v := undef) (a' := ?_) m3_49 rfl rfl (any_of HT_.out (by kernel_rfl)) (fun _ _ _ h => h) (Or.inr ⟨by rfl, rfl⟩) ?_ ?_; rotate_left
          · simp only [Act.put, pa3_1, pa3_2, pa3_3, i64_w, i32_w]
            rfl
          refine pure_ (i := 41) (N := some 58) (v := undef) (a' := ?_) m3_50 rfl rfl (any_of HT_.out (by kernel_rfl)) (fun _ _ _ h => h) (Or.inr ⟨by rfl, rfl⟩) ?_ ?_; rotate_left
          · simp only [Act.put, pa3_1, pa3_2, pa3_3, i64_w, i32_w]
            rfl
          refine pure_ (i := 42) (N := some 59) (v := undef) (a' := ?_) m3_55 rfl rfl (any_of HT_.out (by kernel_rfl)) (fun _ _ _ h => h) (Or.inr ⟨by rfl, rfl⟩) ?_ ?_; rotate_left
          · simp only [Act.put, pa3_1, pa3_2, pa3_3, i64_w, i32_w]
            rfl
          refine pure_ (i := 43) (N := some 60) (v := undef) (a' := ?_) m3_56 rfl rfl (any_of HT_.out (by kernel_rfl)) (fun _ _ _ h => h) (Or.inr ⟨by rfl, rfl⟩) ?_ ?_; rotate_left
          · simp only [Act.put, pa3_1, pa3_2, pa3_3, i64_w, i32_w]
            rfl
          refine pure_ (i := 44) (N := some 61) (v := undef) (a' := ?_) m3_57 rfl rfl (any_of HT_.out (by kernel_rfl)) (fun _ _ _ h => h) (Or.inr ⟨by rfl, rfl⟩) ?_ ?_; rotate_left
          · simp only [Act.put, pa3_1, pa3_2, pa3_3, i64_w, i32_w]
            rfl
          refine pure_ (i := 45) (N := some 62) (v := undef) (a' := ?_) m3_58 rfl rfl (any_of HT_.out (by kernel_rfl)) (fun _ _ _ h => h) (Or.inr ⟨by rfl, rfl⟩) ?_ ?_; rotate_left
          · simp only [Act.put, pa3_1, pa3_2, pa3_3, i64_w, i32_w]
            rfl
          refine pure_ (i := 46) (N := some 63) (v := undef) (a' := ?_) m3_59 rfl rfl (any_of HT_.out (by kernel_rfl)) (fun _ _ _ h => h) (Or.inr ⟨by rfl, rfl⟩) ?_ ?_; rotate_left
          · simp only [Act.put, pa3_1, pa3_2, pa3_3, i64_w, i32_w]
            rfl
          refine pure_ (i := 47) (N := some 64) (v := undef) (a' := ?_) m3_60 rfl rfl (any_of HT_.out (by kernel_rfl)) (fun _ _ _ h => h) (Or.inr ⟨by rfl, rfl⟩) ?_ ?_; rotate_left
          · simp only [Act.put, pa3_1, pa3_2, pa3_3, i64_w, i32_w]
            rfl
          refine pure_ (i := 48) (N := some 65) (v := undef) (a' := ?_) m3_61 rfl rfl (any_of HT_.out (by kernel_rfl)) (fun _ _ _ h => h) (Or.inr ⟨by rfl, rfl⟩) ?_ ?_; rotate_left
          · simp only [Act.put, pa3_1, pa3_2, pa3_3, i64_w, i32_w]
            rfl
          refine pure_ (i := 49) (N := some 66) (v := ?_) (a' := ?_) m3_62 rfl rfl (any_of HT_.out (by kernel_rfl)) (fun _ _ _ h => h) (Or.inl ⟨by rfl, ?_⟩) ?_ ?_; rotate_left
          · intro w'
            go_simp; (with_reducible rfl)
          rotate_left
          · simp only [Act.put, pa3_1, pa3_2, pa3_3, i64_w, i32_w]
            rfl
          refine pure_ (i := 50) (N := some 67) (v := ?_) (a' := ?_) m3_63 rfl rfl (any_of HT_.out (by kernel_rfl)) (fun _ _ _ h => h) (Or.inl ⟨by rfl, ?_⟩) ?_ ?_; rotate_left
          · intro w'
            go_simp; (with_reducible rfl)
          rotate_left
          · simp only [Act.put, pa3_1, pa3_2, pa3_3, i64_w, i32_w]
            rfl
          refine pure_ (i := 51) (N := some 68) (v := undef) (a' := ?_) m3_64 rfl rfl (any_of HT_.out (by kernel_rfl)) (fun _ _ _ h => h) (Or.inr ⟨by rfl, rfl⟩) ?_ ?_; rotate_left
          · simp only [Act.put, pa3_1, pa3_2, pa3_3, i64_w, i32_w]
            rfl
          refine pure_ (i := 52) (N := some 69) (v := undef) (a' := ?_) m3_65 rfl rfl (any_of HT_.out (by kernel_rfl)) (fun _ _ _ h => h) (Or.inr ⟨by rfl, rfl⟩) ?_ ?_; rotate_left
          · simp only [Act.put, pa3_1, pa3_2, pa3_3, i64_w, i32_w]
            rfl
          refine pure_ (i := 53) (N := some 70) (v := undef) (a' := ?_) m3_66 rfl rfl (any_of HT_.out (by kernel_rfl)) (fun _ _ _ h => h) (Or.inr ⟨by rfl, rfl⟩) ?_ ?_; rotate_left
          · simp only [Act.put, pa3_1, pa3_2, pa3_3, i64_w, i32_w]
            rfl
          refine pure_ (i := 54) (N := some 71) (v := undef) (a' := ?_) m3_67 rfl rfl (any_of HT_.out (by kernel_rfl)) (fun _ _ _ h => h) (Or.inr ⟨by rfl, rfl⟩) ?_ ?_; rotate_left
          · simp only [Act.put, pa3_1, pa3_2, pa3_3, i64_w, i32_w]
            rfl
          refine pure_ (i := 55) (N := some 72) (v := undef) (a' := ?_) m3_72 rfl rfl (any_of HT_.out (by kernel_rfl)) (fun _ _ _ h => h) (Or.inr ⟨by rfl, rfl⟩) ?_ ?_; rotate_left
          · simp only [Act.put, pa3_1, pa3_2, pa3_3, i64_w, i32_w]
            rfl
          refine pure_ (i := 56) (N := some 73) (v := undef) (a' := ?_) m3_73 rfl rfl (any_of HT_.out (by kernel_rfl)) (fun _ _ _ h => h) (Or.inr ⟨by rfl, rfl⟩) ?_ ?_; rotate_left
          · simp only [Act.put, pa3_1, pa3_2, pa3_3, i64_w, i32_w]
            rfl
          refine pure_ (i := 57) (N := some 74) (v := undef) (a' := ?_) m3_74 rfl rfl (any_of HT_.out (by kernel_rfl)) (fun _ _ _ h => h) (Or.inr ⟨by rfl, rfl⟩) ?_ ?_; rotate_left
          · simp only [Act.put, pa3_1, pa3_2, pa3_3, i64_w, i32_w]
            rfl
          refine pure_ (i := 58) (N := some 75) (v := undef) (a' := ?_) m3_75 rfl rfl (any_of HT_.out (by kernel_rfl)) (fun _ _ _ h => h) (Or.inr ⟨by rfl, rfl⟩) ?_ ?_; rotate_left
          · simp only [Act.put, pa3_1, pa3_2, pa3_3, i64_w, i32_w]
            rfl
          refine pure_ (i := 59) (N := some 76) (v := undef) (a' := ?_) m3_76 rfl rfl (any_of HT_.out (by kernel_rfl)) (fun _ _ _ h => h) (Or.inr ⟨by rfl, rfl⟩) ?_ ?_; rotate_left
          · simp only [Act.put, pa3_1, pa3_2, pa3_3, i64_w, i32_w]
            rfl
          refine pure_ (i := 60) (N := some 77) (v := undef) (a' := ?_) m3_77 rfl rfl (any_of HT_.out (by kernel_rfl)) (fun _ _ _ h => h) (Or.inr ⟨by rfl, rfl⟩) ?_ ?_; rotate_left
          · simp only [Act.put, pa3_1, pa3_2, pa3_3, i64_w, i32_w]
            rfl
          refine pure_ (i := 61) (N := some 78) (v := undef) (a' := ?_) m3_78 rfl rfl (any_of HT_.out (by kernel_rfl)) (fun _ _ _ h => h) (Or.inr ⟨by rfl, rfl⟩) ?_ ?_; rotate_left
          · simp only [Act.put, pa3_1, pa3_2, pa3_3, i64_w, i32_w]
            rfl
          refine pure_ (i := 62) (N := some 79) (v := ?_) (a' := ?_) m3_79 rfl rfl (any_of HT_.out (by kernel_rfl)) (fun _ _ _ h => h) (Or.inl ⟨by rfl, ?_⟩) ?_ ?_; rotate_left
          · intro w'
            go_simp; (with_reducible rfl)
          rotate_left
          · simp only [Act.put, pa3_1, pa3_2, pa3_3, i64_w, i32_w]
            rfl
          refine pure_ (i := 63) (N := some 80) (v := ?_) (a' := ?_) m3_80 rfl rfl (any_of HT_.out (by kernel_rfl)) (fun _ _ _ h => h) (Or.inl ⟨by rfl, ?_⟩) ?_ ?_; rotate_left
          · intro w'
            go_simp; (with_reducible rfl)
          rotate_left
          · simp only [Act.put, pa3_1, pa3_2, pa3_3, i64_w, i32_w]
            rfl
          refine pure_ (i := 64) (N := some 81) (v := undef) (a' := ?_) m3_81 rfl rfl (any_of HT_.out (by kernel_rfl)) (fun _ _ _ h => h) (Or.inr ⟨by rfl, rfl⟩) ?_ ?_; rotate_left
          · simp only [Act.put, pa3_1, pa3_2, pa3_3, i64_w, i32_w]
            rfl
          refine pure_ (i := 65) (N := some 82) (v := undef) (a' := ?_) m3_82 rfl rfl (any_of HT_.out (by kernel_rfl)) (fun _ _ _ h => h) (Or.inr ⟨by rfl, rfl⟩) ?_ ?_; rotate_left
          · simp only [Act.put, pa3_1, pa3_2, pa3_3, i64_w, i32_w]
            rfl
          refine pure_ (i := 66) (N := some 83) (v := undef) (a' := ?_) m3_83 rfl rfl (any_of HT_.out (by kernel_rfl)) (fun _ _ _ h => h) (Or.inr ⟨by rfl, rfl⟩) ?_ ?_; rotate_left
          · simp only [Act.put, pa3_1, pa3_2, pa3_3, i64_w, i32_w]
            rfl
          refine pure_ (i := 67) (N := some 84) (v := undef) (a' := ?_) m3_84 rfl rfl (any_of HT_.out (by kernel_rfl)) (fun _ _ _ h => h) (Or.inr ⟨by rfl, rfl⟩) ?_ ?_; rotate_left
          · simp only [Act.put, pa3_1, pa3_2, pa3_3, i64_w, i32_w]
            rfl
          refine pure_ (i := 68) (N := some 85) (v := undef) (a' := ?_) m3_89 rfl rfl (any_of HT_.out (by kernel_rfl)) (fun _ _ _ h => h) (Or.inr ⟨by rfl, rfl⟩) ?_ ?_; rotate_left
          · simp only [Act.put, pa3_1, pa3_2, pa3_3, i64_w, i32_w]
            rfl
          refine pure_ (i := 69) (N := some 86) (v := undef) (a' := ?_) m3_90 rfl rfl (any_of HT_.out (by kernel_rfl)) (fun _ _ _ h => h) (Or.inr ⟨by rfl, rfl⟩) ?_ ?_; rotate_left
          · simp only [Act.put, pa3_1, pa3_2, pa3_3, i64_w, i32_w]
            rfl
          refine pure_ (i := 70) (N := some 87) (v := undef) (a' := ?_) m3_91 rfl rfl (any_of HT_.out (by kernel_rfl)) (fun _ _ _ h => h) (Or.inr ⟨by rfl, rfl⟩) ?_ ?_; rotate_left
          · simp only [Act.put, pa3_1, pa3_2, pa3_3, i64_w, i32_w]
            rfl
          refine pure_ (i := 71) (N := some 88) (v := undef) (a' := ?_) m3_92 rfl rfl (any_of HT_.out (by kernel_rfl)) (fun _ _ _ h => h) (Or.inr ⟨by rfl, rfl⟩) ?_ ?_; rotate_left
          · simp only [Act.put, pa3_1, pa3_2, pa3_3, i64_w, i32_w]
            rfl
          refine pure_ (i := 72) (N := some 89) (v := undef) (a' := ?_) m3_93 rfl rfl (any_of HT_.out (by kernel_rfl)) (fun _ _ _ h => h) (Or.inr ⟨by rfl, rfl⟩) ?_ ?_; rotate_left
          · simp only [Act.put, pa3_1, pa3_2, pa3_3, i64_w, i32_w]
            rfl
          refine pure_ (i := 73) (N := some 90) (v := undef) (a' := ?_) m3_94 rfl rfl (any_of HT_.out (by kernel_rfl)) (fun _ _ _ h => h) (Or.inr ⟨by rfl, rfl⟩) ?_ ?_; rotate_left
          · simp only [Act.put, pa3_1, pa3_2, pa3_3, i64_w, i32_w]
            rfl
          refine pure_ (i := 74) (N := some 91) (v := undef) (a' := ?_) m3_95 rfl rfl (any_of HT_.out (by kernel_rfl)) (fun _ _ _ h => h) (Or.inr ⟨by rfl, rfl⟩) ?_ ?_; rotate_left
          · simp only [Act.put, pa3_1, pa3_2, pa3_3, i64_w, i32_w]
            rfl
          refine pure_ (i := 75) (N := some 92) (v := undef) (a' := ?_) m3_96 rfl rfl (any_of HT_.out (by kernel_rfl)) (fun _ _ _ h => h) (Or.inr ⟨by rfl, rfl⟩) ?_ ?_; rotate_left
          · simp only [Act.put, pa3_1, pa3_2, pa3_3, i64_w, i32_w]
            rfl
          refine pure_ (i := 76) (N := some 93) (v := ?_) (a' := ?_) m3_97 rfl rfl (any_of HT_.out (by kernel_rfl)) (fun _ _ _ h => h) (Or.inl ⟨by rfl, ?_⟩) ?_ ?_; rotate_left
          · intro w'
            go_simp; (with_reducible rfl)
          rotate_left
          · simp only [Act.put, pa3_1, pa3_2, pa3_3, i64_w, i32_w]
            rfl
          refine done_ (done_of HT_.out (by kernel_rfl)) ?_
          try go_wp2
          go_meet
          case rel => exact ⟨_, (true), d3_2, H', ⟨by have := HK1.out; first | omega | exact Nat.le_refl _⟩, ⟨c3_1⟩⟩
        ·rw [if_neg c7] at H
         exact absurd H (by simp)
       ·rw [if_neg c6] at H
        exact absurd H (by simp)
      case rest =>
       clear HC5
       (try clear c1); (try clear p2); (try clear c3); (try clear c3b0); (try clear c3b1); (try clear c3b2); (try clear c4); (try clear c4b0); (try clear c5); (try clear p2)
       obtain ⟨kq, x93_4, rfl, HA, HJ4, HB⟩ := hcut
       cases kq with
       | zero => exact absurd HA.out (by simp [spec_SameCores.j1])
       | succ kj4 =>
        have H := HA.out; clear HA; simp only [spec_SameCores.j1] at H; by_cases c20 : x93_4 = true
        ·subst c20
         rw [if_pos rfl] at H; obtain rfl := Option.some.inj H; go_wp2; go_ret; exact ⟨by first | rfl | (simp [errW_none, errW_some] <;> rfl) | (simp [*, errW_none, errW_some] <;> rfl), c3_1⟩
        ·replace c20 := Bool.eq_false_iff.mpr c20
         subst c20
         rw [if_neg (show ¬ (false = true) by decide)] at H; have H' := ak H; clear H; go_wp2; go_roundg kj4
         case measure => have := HK1.out; have := HJ4.out; omega
         case rel => exact ⟨(wrap64 (x5_1 + 1)), d3_2, H', ⟨by have := HK1.out; have := HJ4.out; omega⟩, ⟨c3_1⟩⟩
     ·rw [if_neg c4] at H
      have c4b0 : decide (x5_1 < (l0.length : Int)) = false := decide_eq_false c4; clear c4; obtain rfl := Option.some.inj H; go_wp2; go_ret; exact ⟨by first | rfl | (simp [errW_none, errW_some] <;> rfl) | (simp [*, errW_none, errW_some] <;> rfl), c3_1⟩
  ·rw [if_neg c3] at H
   have c3b0 : ((l0.length : Int) == (l1.length : Int)) = false := beq_eq_false_iff_ne.mpr c3; have c3b1 : ((l0.length : Int) != (l1.length : Int)) = true := bne_iff_ne.mpr c3
   have c3b2 : (l0.length == l1.length) = false := by first | simpa using c3 | (simp at c3 ⊢; omega)
   obtain rfl := Option.some.inj H; go_enter Try.func5, Try.ntmps5; go_wp2; go_ret; exact ⟨by first | rfl | (simp [errW_none, errW_some] <;> rfl) | (simp [*, errW_none, errW_some] <;> rfl), c3_1⟩

end Go.Proofs.Ytgbgioodifcdbaa.C
