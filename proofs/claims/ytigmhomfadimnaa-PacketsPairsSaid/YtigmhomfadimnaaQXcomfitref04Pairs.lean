/- Written by a program of this session (wip/tools/xprint.py, which calls the kit's print): Go functions as Lean functions, and for each the proof that the machine's call does what it says; no conditions but those that each theorem names. -/
import Derived.Test.YtigmhomfadimnaaQX0
import Derived.Test.YtigmhomfadimnaaQXcomfitref04pairs
namespace Go.Proofs.Ytigmhomfadimnaa.X
open Go.RowKit Go.Proofs.YtigmhomfadimnaaW.PrintWords Go.Proofs.YtigmhomfadimnaaW.PrintLast Go.Proofs.YtigmhomfadimnaaW.PrintMore
attribute [local go_sem] max2_int min2_int max_two min_two max_three min_three max_four min_four   -- for this text's walks alone
set_option linter.unusedVariables false
set_option linter.unusedSimpArgs false

/-! ### comfitref04_Pairs: function 47 -/
def comfitref04_Pairs.l0 : Nat → List Int → Int → Int → Int → Int → Int → Int → Option (Int × Int)
 | 0, _, _, _, _, _, _, _ => none
 | k + 1, x0, x1, x8, x9, x616000, x616001, x616002 => if x9 < x8 then (if 0 ≤ x9 then (if x9 = 0 then (comfitref04_Pairs.l0 k x0 x1 x8 1 (wrap64 (1 + (Go.bits .and .i64 (shr .i64 x1 0) 1))) x616001 x616002) else (if x9 = 1 then (comfitref04_Pairs.l0 k x0 x1 x8 2 x616000 (wrap64 (1 + (Go.bits .and .i64 (shr .i64 x1 1) 1))) x616002) else (if x9 = 2 then (comfitref04_Pairs.l0 k x0 x1 x8 3 x616000 x616001 (wrap64 (1 + (Go.bits .and .i64 (shr .i64 x1 2) 1)))) else (none)))) else (none)) else ((comfitref04_pairs.f k x0 x616000 x616001 x616002).bind fun bt616 => (some (bt616.1, bt616.2)))
def comfitref04_Pairs.f (k : Nat) (l0 : List Int) (a1 : Int) : Option (Int × Int) := comfitref04_Pairs.l0 k l0 a1 (l0.length : Int) 0 0 0 0
set_option maxHeartbeats 8000000 in
set_option maxRecDepth 100000 in
theorem comfitref04_Pairs.calls (k : Nat) (A0 : Option Addr) (c0 : Nat) (l0 : List Int) (a1 : Int) (r1 : Int) (r2 : Int) (w : World) (hr0 : Kd.C (Kd.int .i64) w A0 l0.length l0) (hc0 : l0.length ≤ c0) (h : comfitref04_Pairs.f k l0 a1 = some (r1, r2)) :
  Calls Try.prog 47 #[.slice A0 l0.length c0, .int .i64 a1] w fun e w' => e = .returned (.agg #[.int .i64 r1, .int .i64 r2]) ∧ Below w.heap.size w w' := by
 have hu25 := Try.underlying25
 have hu67 := Try.underlying67
 have HR0 := Aside0.mk hr0
 have HC0 := Aside0.mk hc0
 clear hr0 hc0
 have HB := Aside0.mk (Below.refl w.heap.size w)
 have H : (comfitref04_Pairs.l0 k l0 a1 (l0.length : Int) 0 0 0 0) = some (r1, r2) := h
 clear h
 have H' := Aside0.mk H
 clear H
 go_enter Try.func47, Try.ntmps47
 go_wp2_with (first | ((with_reducible refine gate_dst (N := 4) rfl ?_); refine box_event ?hg (N := 4) ?hd (cs := #[.int .i64 0, .int .i64 0]) (t := 25) ?hr ?_; (case hd => rfl); (case hg => rfl); (case hr => first | (go_simp; done) | (go_simp; rfl)); intro gb614 hg w3 hbox hb; have n0_ := Aside0.mk (below_step (hb_ HB.out) hb); have n1_ := Aside0.mk (hbox); have n2_ := Aside0.mk ((by rw [hg]; exact (below_size (hb_ HB.out)) : w.heap.size ≤ gb614)); have n3_ := Aside0.mk ((by rw [hg]; exact (below_size (hb_ HB.out)) : w.heap.size ≤ gb614)); clear HB; have HB := n0_; have BK614 := n1_; have GW614 := n2_; have GE614 := n3_; clear n0_ n1_ n2_ n3_; clear hb hbox hg) | ((with_reducible refine gate_dst (N := 5) rfl ?_); refine box_event ?hg (N := 5) ?hd (cs := #[.int .i64 0, .int .i64 0, .int .i64 0]) (t := 67) ?hr ?_; (case hd => rfl); (case hg => rfl); (case hr => first | (go_simp; done) | (go_simp; rfl)); intro gb615 hg w4 hbox hb; have n0_ := Aside0.mk (bkb_ BK614.out hb); have n1_ := Aside0.mk (below_step (hb_ HB.out) hb); have n2_ := Aside0.mk (hbox); have n3_ := Aside0.mk ((by rw [hg]; exact (below_size (hb_ HB.out)) : w.heap.size ≤ gb615)); have n4_ := Aside0.mk ((by rw [hg]; exact (below_size (hb_ HB.out)) : w.heap.size ≤ gb615)); have n5_ := Aside0.mk ((by rw [hg]; exact Nat.ne_of_lt (bkl_ BK614.out) : gb614 ≠ gb615)); have n6_ := Aside0.mk ((by rw [hg]; exact Nat.ne_of_gt (bkl_ BK614.out) : gb615 ≠ gb614)); clear BK614; clear HB; have BK614 := n0_; have HB := n1_; have BK615 := n2_; have GW615 := n3_; have GE615 := n4_; have NB614_615 := n5_; have NB615_614 := n6_; clear n0_ n1_ n2_ n3_ n4_ n5_ n6_; clear hb hbox hg))
 go_loopg [9] k (fun kq v9 w' => ∃ (x9_1 : Int) (x616000_1 : Int) (x616001_1 : Int) (x616002_1 : Int), v9 = .int .i64 x9_1 ∧ Aside0 (comfitref04_Pairs.l0 kq l0 a1 (l0.length : Int) x9_1 x616000_1 x616001_1 x616002_1 = some (r1, r2)) ∧ Aside0 (kq ≤ k) ∧ Aside0 (w'.heap[gb614]? = some (.cells #[.int .i64 0, .int .i64 0] 25 (0, 0))) ∧ Aside0 (w'.heap[gb615]? = some (.cells #[.int .i64 x616000_1, .int .i64 x616001_1, .int .i64 x616002_1] 67 (0, 0))) ∧ Aside0 (Below w.heap.size w w'))
 case atStart => exact ⟨(0), (0), (0), (0), (by first | rfl | (simp; done) | (simp [*]; done)), H', ⟨Nat.le_refl _⟩, ⟨by (with_reducible repeat (first | refine blk_drewN ?_ _ | refine blk_drew ?_ | refine blk_alloc ?_ _)); exact BK614.out⟩, ⟨by (with_reducible repeat (first | refine blk_drewN ?_ _ | refine blk_drew ?_ | refine blk_alloc ?_ _)); exact BK615.out⟩, ⟨by repeat (first | (with_reducible first | exact HB.out | apply below_alloc | apply pw_below_drewN | apply below_drew1 | refine below_set ?_ GE614.out | refine below_set ?_ GE615.out) | exact HB.out)⟩⟩
 case round =>
  clear H'
  try clear p2
  try clear c4
  obtain ⟨x9_1, x616000_1, x616001_1, x616002_1, rfl, HA, HK1, BK614, BK615, HB⟩ := hrel
  cases gk with
  | zero => exact absurd HA.out (by simp [comfitref04_Pairs.l0])
  | succ k1 =>
   have H := HA.out
   clear HA
   simp only [comfitref04_Pairs.l0] at H
   by_cases c5 : x9_1 < (l0.length : Int)
   ·rw [if_pos c5] at H
    have c5b0 : decide (x9_1 < (l0.length : Int)) = true := decide_eq_true c5
    clear c5
    by_cases c6 : 0 ≤ x9_1
    ·rw [if_pos c6] at H
     have c6b0 := eq_true c6
     have c6b1 : decide (0 ≤ x9_1) = true := decide_eq_true c6
     clear c6
     obtain ⟨ji7, hji7⟩ : ∃ j_ : Int, (shr .i64 a1 x9_1) = j_ := ⟨_, rfl⟩
     replace H : (if x9_1 = 0 then (comfitref04_Pairs.l0 k1 l0 a1 (l0.length : Int) 1 (wrap64 (1 + (Go.bits .and .i64 (shr .i64 a1 0) 1))) x616001_1 x616002_1) else (if x9_1 = 1 then (comfitref04_Pairs.l0 k1 l0 a1 (l0.length : Int) 2 x616000_1 (wrap64 (1 + (Go.bits .and .i64 (shr .i64 a1 1) 1))) x616002_1) else (if x9_1 = 2 then (comfitref04_Pairs.l0 k1 l0 a1 (l0.length : Int) 3 x616000_1 x616001_1 (wrap64 (1 + (Go.bits .and .i64 (shr .i64 a1 2) 1)))) else (none)))) = some (r1, r2) := by first | (rw [hji7] at H; exact H) | (simp only [hji7] at H ⊢; exact H) | exact H
     have hji7_ : (a1 / 2 ^ min x9_1.toNat 64) = ji7 := hji7
     have hji7z : x9_1 ≤ 64 → (a1 / 2 ^ x9_1.toNat) = ji7 := shr_small hji7
     by_cases c8 : x9_1 = 0
     ·rw [if_pos c8] at H
      subst c8
      have hl0_ : 0 < l0.length := by have := of_decide_eq_true c5b0; omega
      have hl1_ := eq_true hl0_
      have hl2_ := decide_eq_true hl0_
      have hl3_ : (l0 = []) = False := eq_false (by intro e; rw [e] at hl0_; simp at hl0_)
      rw [show shr .i64 a1 0 = a1 from by simp [shr]] at H
      have H' := Aside0.mk H
      clear H
      have hnb9 := NB615_614.out
      have hnc9 := NB614_615.out
      have hcz10_0 : wr.cell? ⟨gb615, 0, none⟩ = some (.int .i64 x616000_1) := (blk_cell BK615.out 0).trans rfl
      have hcz10_1 : wr.cell? ⟨gb615, 1, none⟩ = some (.int .i64 x616001_1) := (blk_cell BK615.out 1).trans rfl
      have hcz10_2 : wr.cell? ⟨gb615, 2, none⟩ = some (.int .i64 x616002_1) := (blk_cell BK615.out 2).trans rfl
      have hfz10_0 := blk_frozen BK615.out 0
      have hfz10_1 := blk_frozen BK615.out 1
      have hfz10_2 := blk_frozen BK615.out 2
      go_wp2
      go_roundg k1
      case measure => have := HK1.out; omega
      case rel => exact ⟨(1), (wrap64 (1 + (Go.bits .and .i64 a1 1))), (x616001_1), (x616002_1), (by first | rfl | (simp; done) | (simp [*]; done)), H', ⟨by have := HK1.out; omega⟩, ⟨by (with_reducible repeat (first | refine blk_drewN ?_ _ | refine blk_drew ?_ | refine blk_alloc ?_ _)); refine blk_far ?_ NB614_615.out _; (with_reducible repeat (first | refine blk_drewN ?_ _ | refine blk_drew ?_ | refine blk_alloc ?_ _)); exact BK614.out⟩, ⟨by (with_reducible repeat (first | refine blk_drewN ?_ _ | refine blk_drew ?_ | refine blk_alloc ?_ _)); refine blk_put (cs := #[.int .i64 x616000_1, .int .i64 x616001_1, .int .i64 x616002_1]) ?_ 0 _ rfl; (with_reducible repeat (first | refine blk_drewN ?_ _ | refine blk_drew ?_ | refine blk_alloc ?_ _)); exact BK615.out⟩, ⟨by repeat (first | (with_reducible first | exact HB.out | apply below_alloc | apply pw_below_drewN | apply below_drew1 | refine below_set ?_ GE614.out | refine below_set ?_ GE615.out) | exact HB.out)⟩⟩
     ·rw [if_neg c8] at H
      have c8b0 : (x9_1 == 0) = false := beq_eq_false_iff_ne.mpr c8
      have c8b1 : (x9_1 != 0) = true := bne_iff_ne.mpr c8
      by_cases c11 : x9_1 = 1
      ·rw [if_pos c11] at H
       subst c11
       have H' := Aside0.mk H
       clear H
       have hnb12 := NB615_614.out
       have hnc12 := NB614_615.out
       have hcz13_0 : wr.cell? ⟨gb615, 0, none⟩ = some (.int .i64 x616000_1) := (blk_cell BK615.out 0).trans rfl
       have hcz13_1 : wr.cell? ⟨gb615, 1, none⟩ = some (.int .i64 x616001_1) := (blk_cell BK615.out 1).trans rfl
       have hcz13_2 : wr.cell? ⟨gb615, 2, none⟩ = some (.int .i64 x616002_1) := (blk_cell BK615.out 2).trans rfl
       have hfz13_0 := blk_frozen BK615.out 0
       have hfz13_1 := blk_frozen BK615.out 1
       have hfz13_2 := blk_frozen BK615.out 2
       go_wp2
       go_roundg k1
       case measure => have := HK1.out; omega
       case rel => exact ⟨(2), (x616000_1), (wrap64 (1 + (Go.bits .and .i64 (shr .i64 a1 1) 1))), (x616002_1), (by first | rfl | (simp; done) | (simp [*]; done)), H', ⟨by have := HK1.out; omega⟩, ⟨by (with_reducible repeat (first | refine blk_drewN ?_ _ | refine blk_drew ?_ | refine blk_alloc ?_ _)); refine blk_far ?_ NB614_615.out _; (with_reducible repeat (first | refine blk_drewN ?_ _ | refine blk_drew ?_ | refine blk_alloc ?_ _)); exact BK614.out⟩, ⟨by (with_reducible repeat (first | refine blk_drewN ?_ _ | refine blk_drew ?_ | refine blk_alloc ?_ _)); refine blk_put (cs := #[.int .i64 x616000_1, .int .i64 x616001_1, .int .i64 x616002_1]) ?_ 1 _ rfl; (with_reducible repeat (first | refine blk_drewN ?_ _ | refine blk_drew ?_ | refine blk_alloc ?_ _)); exact BK615.out⟩, ⟨by repeat (first | (with_reducible first | exact HB.out | apply below_alloc | apply pw_below_drewN | apply below_drew1 | refine below_set ?_ GE614.out | refine below_set ?_ GE615.out) | exact HB.out)⟩⟩
      ·rw [if_neg c11] at H
       have c11b0 : (x9_1 == 1) = false := beq_eq_false_iff_ne.mpr c11
       have c11b1 : (x9_1 != 1) = true := bne_iff_ne.mpr c11
       by_cases c14 : x9_1 = 2
       ·rw [if_pos c14] at H
        subst c14
        have H' := Aside0.mk H
        clear H
        have hnb15 := NB615_614.out
        have hnc15 := NB614_615.out
        have hcz16_0 : wr.cell? ⟨gb615, 0, none⟩ = some (.int .i64 x616000_1) := (blk_cell BK615.out 0).trans rfl
        have hcz16_1 : wr.cell? ⟨gb615, 1, none⟩ = some (.int .i64 x616001_1) := (blk_cell BK615.out 1).trans rfl
        have hcz16_2 : wr.cell? ⟨gb615, 2, none⟩ = some (.int .i64 x616002_1) := (blk_cell BK615.out 2).trans rfl
        have hfz16_0 := blk_frozen BK615.out 0
        have hfz16_1 := blk_frozen BK615.out 1
        have hfz16_2 := blk_frozen BK615.out 2
        go_wp2
        go_roundg k1
        case measure => have := HK1.out; omega
        case rel => exact ⟨(3), (x616000_1), (x616001_1), (wrap64 (1 + (Go.bits .and .i64 (shr .i64 a1 2) 1))), (by first | rfl | (simp; done) | (simp [*]; done)), H', ⟨by have := HK1.out; omega⟩, ⟨by (with_reducible repeat (first | refine blk_drewN ?_ _ | refine blk_drew ?_ | refine blk_alloc ?_ _)); refine blk_far ?_ NB614_615.out _; (with_reducible repeat (first | refine blk_drewN ?_ _ | refine blk_drew ?_ | refine blk_alloc ?_ _)); exact BK614.out⟩, ⟨by (with_reducible repeat (first | refine blk_drewN ?_ _ | refine blk_drew ?_ | refine blk_alloc ?_ _)); refine blk_put (cs := #[.int .i64 x616000_1, .int .i64 x616001_1, .int .i64 x616002_1]) ?_ 2 _ rfl; (with_reducible repeat (first | refine blk_drewN ?_ _ | refine blk_drew ?_ | refine blk_alloc ?_ _)); exact BK615.out⟩, ⟨by repeat (first | (with_reducible first | exact HB.out | apply below_alloc | apply pw_below_drewN | apply below_drew1 | refine below_set ?_ GE614.out | refine below_set ?_ GE615.out) | exact HB.out)⟩⟩
       ·rw [if_neg c14] at H
        exact absurd H (by simp)
    ·rw [if_neg c6] at H
     exact absurd H (by simp)
   ·rw [if_neg c5] at H
    have c5b0 : decide (x9_1 < (l0.length : Int)) = false := decide_eq_false c5
    clear c5
    replace H := Option.bind_eq_some_iff.mp H
    obtain ⟨⟨t616, t617⟩, A170, H⟩ := H
    replace H : (some (t616, t617)) = some (r1, r2) := H
    have A17 := Aside0.mk A170
    clear A170
    simp only [Option.some.injEq, Prod.mk.injEq] at H
    obtain ⟨rfl, rfl⟩ := H
    have hnb18 := NB615_614.out
    have hnc18 := NB614_615.out
    have hcz19_0 : wr.cell? ⟨gb615, 0, none⟩ = some (.int .i64 x616000_1) := (blk_cell BK615.out 0).trans rfl
    have hcz19_1 : wr.cell? ⟨gb615, 1, none⟩ = some (.int .i64 x616001_1) := (blk_cell BK615.out 1).trans rfl
    have hcz19_2 : wr.cell? ⟨gb615, 2, none⟩ = some (.int .i64 x616002_1) := (blk_cell BK615.out 2).trans rfl
    have hfz19_0 := blk_frozen BK615.out 0
    have hfz19_1 := blk_frozen BK615.out 1
    have hfz19_2 := blk_frozen BK615.out 2
    go_wp2_with (first | ((with_reducible refine gate_callee (f := 73) rfl ?_); refine goesL_ (some 22) rfl rfl Try.func73 (by kernel_rfl) rfl #[.slice A0 l0.length c0, .agg #[.int .i64 x616000_1, .int .i64 x616001_1, .int .i64 x616002_1]] rfl al_ ?_; (with_reducible refine (comfitref04_pairs.calls k1 _ _ l0 x616000_1 x616001_1 x616002_1 t616 t617 _ ?side1 ?side2 A17.out).mono ?_); (case side1 => exact kc_ (Kd.C_below HR0.out HB.out)); (case side2 => exact HC0.out); rintro e w20 ⟨rfl, hb⟩; refine ⟨_, rfl, ?_⟩; have n0_ := Aside0.mk (bkb_ BK614.out hb); have n1_ := Aside0.mk (bkb_ BK615.out hb); have n2_ := Aside0.mk (below_step (hb_ HB.out) hb); clear BK614; clear BK615; clear HB; have BK614 := n0_; have BK615 := n1_; have HB := n2_; clear n0_ n1_ n2_; (try clear hb); (try clear hb2); (try clear hk); (try clear hi); have hcz21_0 : w20.cell? ⟨gb614, 0, none⟩ = some (.int .i64 0) := (blk_cell BK614.out 0).trans rfl; have hcz21_1 : w20.cell? ⟨gb614, 1, none⟩ = some (.int .i64 0) := (blk_cell BK614.out 1).trans rfl; have hfz21_0 := blk_frozen BK614.out 0; have hfz21_1 := blk_frozen BK614.out 1))
    refine bodyPost_ret (results_cell_row rfl _ _ gb614 25 #[.int .i64 t616, .int .i64 t617] (0, 0) _ rfl (by (with_reducible repeat (first | refine blk_drewN ?_ _ | refine blk_drew ?_ | refine blk_alloc ?_ _)); refine blk_put (cs := #[.int .i64 t616, .int .i64 0]) ?_ 1 _ rfl; (with_reducible repeat (first | refine blk_drewN ?_ _ | refine blk_drew ?_ | refine blk_alloc ?_ _)); refine blk_put (cs := #[.int .i64 0, .int .i64 0]) ?_ 0 _ rfl; (with_reducible repeat (first | refine blk_drewN ?_ _ | refine blk_drew ?_ | refine blk_alloc ?_ _)); exact BK614.out) Try.underlying25 rfl (by kernel_rfl)) rfl ?_
    exact ⟨by first | rfl | (simp [errW_none, errW_some] <;> rfl) | (simp [*, errW_none, errW_some] <;> rfl), by repeat (first | (with_reducible first | exact HB.out | apply below_alloc | apply pw_below_drewN | apply below_drew1 | refine below_set ?_ GE614.out | refine below_set ?_ GE615.out) | exact HB.out)⟩

end Go.Proofs.Ytigmhomfadimnaa.X
