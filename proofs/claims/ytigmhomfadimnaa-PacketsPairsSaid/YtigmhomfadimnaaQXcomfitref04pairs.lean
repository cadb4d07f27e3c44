/- Written by a program of this session (wip/tools/xprint.py, which calls the kit's print): Go functions as Lean functions, and for each the proof that the machine's call does what it says; no conditions but those that each theorem names. -/
import Derived.Test.YtigmhomfadimnaaQX0
import Derived.Test.YtigmhomfadimnaaQXR
import Derived.Test.YtigmhomfadimnaaQXRT
import Derived.Test.YtigmhomfadimnaaQXS
namespace Go.Proofs.Ytigmhomfadimnaa.X
open Go.RowKit Go.Proofs.YtigmhomfadimnaaW.PrintWords Go.Proofs.YtigmhomfadimnaaW.PrintLast Go.Proofs.YtigmhomfadimnaaW.PrintMore
attribute [local go_sem] max2_int min2_int max_two min_two max_three min_three max_four min_four   -- for this text's walks alone
set_option linter.unusedVariables false
set_option linter.unusedSimpArgs false

/-! ### comfitref04_pairs: function 73 -/
mutual
def comfitref04_pairs.l0 : Nat → List Int → Int → List Int → Int → Int → Int → Int → Int → Option (Int × Int)
 | 0, _, _, _, _, _, _, _, _ => none
 | k + 1, x0, x5, x12, x13, x14, x578000, x578001, x578002 => if x14 < x13 then (if 0 ≤ x14 then (if x14 < (x12.length : Int) then (if x14 = 0 then (if x578000 > 0 then (comfitref04_pairs.l0 k x0 (wrap64 (x5 + (rd x12 0))) x12 x13 1 x578000 x578001 x578002) else (comfitref04_pairs.l0 k x0 x5 x12 x13 1 x578000 x578001 x578002)) else (if x14 = 1 then (if x578001 > 0 then (comfitref04_pairs.l0 k x0 (wrap64 (x5 + (rd x12 1))) x12 x13 2 x578000 x578001 x578002) else (comfitref04_pairs.l0 k x0 x5 x12 x13 2 x578000 x578001 x578002)) else (if x14 = 2 then (if x578002 > 0 then (comfitref04_pairs.l0 k x0 (wrap64 (x5 + (rd x12 2))) x12 x13 3 x578000 x578001 x578002) else (comfitref04_pairs.l0 k x0 x5 x12 x13 3 x578000 x578001 x578002)) else (none)))) else (none)) else (none)) else (if x5 = 0 then ((comfitref04_whole.f 0).bind fun bt580 => (some (bt580.1, bt580.2))) else ((comfitref04_Sum.f k x0 (wrap64 ((shl .i64 1 (x0.length : Int)) - 1))).bind fun t582 => ((comfitref04_frac.f k t582 x5).bind fun bt583 => (comfitref04_pairs.l1 k x0 x5 x0 (x0.length : Int) 0 x578000 x578001 x578002 bt583.1 bt583.2))))
def comfitref04_pairs.l1 : Nat → List Int → Int → List Int → Int → Int → Int → Int → Int → Int → Int → Option (Int × Int)
 | 0, _, _, _, _, _, _, _, _, _, _ => none
 | k + 1, x0, x5, x38, x39, x40, x578000, x578001, x578002, x586000, x586001 => if x40 < x39 then (if 0 ≤ x40 then (if x40 < (x38.length : Int) then (if x40 = 0 then (if x578000 > 0 then ((comfitref04_frac.f k (rd x38 0) x5).bind fun bt588 => ((comfitref04_pairs.f k x0 (wrap64 (x578000 - 1)) x578001 x578002).bind fun bt590 => ((comfitref04_times.f k bt588.1 bt588.2 bt590.1 bt590.2).bind fun bt592 => ((comfitref04_Plus.f k x586000 x586001 bt592.1 bt592.2).bind fun bt594 => (comfitref04_pairs.l1 k x0 x5 x38 x39 1 x578000 x578001 x578002 bt594.1 bt594.2))))) else (comfitref04_pairs.l1 k x0 x5 x38 x39 1 x578000 x578001 x578002 x586000 x586001)) else (if x40 = 1 then (if x578001 > 0 then ((comfitref04_frac.f k (rd x38 1) x5).bind fun bt597 => ((comfitref04_pairs.f k x0 x578000 (wrap64 (x578001 - 1)) x578002).bind fun bt599 => ((comfitref04_times.f k bt597.1 bt597.2 bt599.1 bt599.2).bind fun bt601 => ((comfitref04_Plus.f k x586000 x586001 bt601.1 bt601.2).bind fun bt603 => (comfitref04_pairs.l1 k x0 x5 x38 x39 2 x578000 x578001 x578002 bt603.1 bt603.2))))) else (comfitref04_pairs.l1 k x0 x5 x38 x39 2 x578000 x578001 x578002 x586000 x586001)) else (if x40 = 2 then (if x578002 > 0 then ((comfitref04_frac.f k (rd x38 2) x5).bind fun bt606 => ((comfitref04_pairs.f k x0 x578000 x578001 (wrap64 (x578002 - 1))).bind fun bt608 => ((comfitref04_times.f k bt606.1 bt606.2 bt608.1 bt608.2).bind fun bt610 => ((comfitref04_Plus.f k x586000 x586001 bt610.1 bt610.2).bind fun bt612 => (comfitref04_pairs.l1 k x0 x5 x38 x39 3 x578000 x578001 x578002 bt612.1 bt612.2))))) else (comfitref04_pairs.l1 k x0 x5 x38 x39 3 x578000 x578001 x578002 x586000 x586001)) else (none)))) else (none)) else (none)) else (some (x586000, x586001))
def comfitref04_pairs.f : Nat → List Int → Int → Int → Int → Option (Int × Int)
 | 0, _, _, _, _ => none
 | k + 1, l0, a1_0, a1_1, a1_2 => comfitref04_pairs.l0 k l0 0 l0 (l0.length : Int) 0 a1_0 a1_1 a1_2
end
def comfitref04_pairs.T17 : Bool × List (List Nat × List Nat) := (true, [([], []), ([], []), ([], []), ([1, 2], [1, 2]), ([], []), ([], []), ([4, 5, 3], [4, 5]), ([3, 6, 6], [3, 6]), ([0, 7, 7], [0, 7]), ([8, 8, 0, 1, 2, 3, 4, 5, 6, 7, 8], [8])])
def comfitref04_pairs.B17 : List Nat := [0, 0, 0, 6, 0, 0, 62, 126, 255, 511]
theorem comfitref04_pairs.tab17 : rtab .any (opsOf Try.f73 17) = comfitref04_pairs.T17 := by kernel_rfl
theorem comfitref04_pairs.bits17 : waitsOk comfitref04_pairs.T17.2 comfitref04_pairs.B17 = true := by kernel_rfl
set_option maxHeartbeats 8000000 in
set_option maxRecDepth 100000 in
theorem comfitref04_pairs.calls (k : Nat) : ∀ (A0 : Option Addr) (c0 : Nat) (l0 : List Int) (a1_0 : Int) (a1_1 : Int) (a1_2 : Int) (r1 : Int) (r2 : Int) (w : World) (hr0 : Kd.C (Kd.int .i64) w A0 l0.length l0) (hc0 : l0.length ≤ c0) (h : comfitref04_pairs.f k l0 a1_0 a1_1 a1_2 = some (r1, r2)),
  Calls Try.prog 73 #[.slice A0 l0.length c0, .agg #[.int .i64 a1_0, .int .i64 a1_1, .int .i64 a1_2]] w fun e w' => e = .returned (.agg #[.int .i64 r1, .int .i64 r2]) ∧ Below w.heap.size w w' := by
 induction k using Nat.strongRecOn with
 | _ k ih =>
 intro A0 c0 l0 a1_0 a1_1 a1_2 r1 r2 w hr0 hc0 h
 cases k with
 | zero => exact absurd h (by simp [comfitref04_pairs.f])
 | succ k =>
 simp only [comfitref04_pairs.f] at h
 have hu67 := Try.underlying67
 have hu25 := Try.underlying25
 have HR0 := Aside0.mk hr0
 have HC0 := Aside0.mk hc0
 clear hr0 hc0
 have HB := Aside0.mk (Below.refl w.heap.size w)
 have H : (comfitref04_pairs.l0 k l0 0 l0 (l0.length : Int) 0 a1_0 a1_1 a1_2) = some (r1, r2) := h
 clear h
 have H' := Aside0.mk H
 clear H
 go_enter Try.func73, Try.ntmps73
 go_wp2_with (first | ((with_reducible refine gate_dst (N := 3) rfl ?_); refine box_event ?hg (N := 3) ?hd (cs := #[.int .i64 a1_0, .int .i64 a1_1, .int .i64 a1_2]) (t := 67) ?hr ?_; (case hd => rfl); (case hg => rfl); (case hr => first | (go_simp; done) | (go_simp; rfl)); intro gb577 hg w3 hbox hb; have n0_ := Aside0.mk (below_step (hb_ HB.out) hb); have n1_ := Aside0.mk (hbox); have n2_ := Aside0.mk ((by rw [hg]; exact (below_size (hb_ HB.out)) : w.heap.size ≤ gb577)); have n3_ := Aside0.mk ((by rw [hg]; exact (below_size (hb_ HB.out)) : w.heap.size ≤ gb577)); clear HB; have HB := n0_; have BK577 := n1_; have GW577 := n2_; have GE577 := n3_; clear n0_ n1_ n2_ n3_; clear hb hbox hg) | ((with_reducible refine gate_dst (N := 4) rfl ?_); refine box_event ?hg (N := 4) ?hd (cs := #[.int .i64 0, .int .i64 0]) (t := 25) ?hr ?_; (case hd => rfl); (case hg => rfl); (case hr => first | (go_simp; done) | (go_simp; rfl)); intro gb578 hg w4 hbox hb; have n0_ := Aside0.mk (bkb_ BK577.out hb); have n1_ := Aside0.mk (below_step (hb_ HB.out) hb); have n2_ := Aside0.mk (hbox); have n3_ := Aside0.mk ((by rw [hg]; exact (below_size (hb_ HB.out)) : w.heap.size ≤ gb578)); have n4_ := Aside0.mk ((by rw [hg]; exact (below_size (hb_ HB.out)) : w.heap.size ≤ gb578)); have n5_ := Aside0.mk ((by rw [hg]; exact Nat.ne_of_lt (bkl_ BK577.out) : gb577 ≠ gb578)); have n6_ := Aside0.mk ((by rw [hg]; exact Nat.ne_of_gt (bkl_ BK577.out) : gb578 ≠ gb577)); clear BK577; clear HB; have BK577 := n0_; have HB := n1_; have BK578 := n2_; have GW578 := n3_; have GE578 := n4_; have NB577_578 := n5_; have NB578_577 := n6_; clear n0_ n1_ n2_ n3_ n4_ n5_ n6_; clear hb hbox hg))
 go_loopg [5, 14] k (fun kq v5 v14 w' => ∃ (x5_1 : Int) (x14_1 : Int), v5 = .int .i64 x5_1 ∧ v14 = .int .i64 x14_1 ∧ Aside0 (comfitref04_pairs.l0 kq l0 x5_1 l0 (l0.length : Int) x14_1 a1_0 a1_1 a1_2 = some (r1, r2)) ∧ Aside0 (kq ≤ k) ∧ Aside0 (w'.heap[gb577]? = some (.cells #[.int .i64 a1_0, .int .i64 a1_1, .int .i64 a1_2] 67 (0, 0))) ∧ Aside0 (w'.heap[gb578]? = some (.cells #[.int .i64 0, .int .i64 0] 25 (0, 0))) ∧ Aside0 (Below w.heap.size w w'))
 case atStart => exact ⟨(0), (0), (by first | rfl | (simp; done) | (simp [*]; done)), (by first | rfl | (simp; done) | (simp [*]; done)), H', ⟨Nat.le_refl _⟩, ⟨by (with_reducible repeat (first | refine blk_drewN ?_ _ | refine blk_drew ?_ | refine blk_alloc ?_ _)); exact BK577.out⟩, ⟨by (with_reducible repeat (first | refine blk_drewN ?_ _ | refine blk_drew ?_ | refine blk_alloc ?_ _)); exact BK578.out⟩, ⟨by repeat (first | (with_reducible first | exact HB.out | apply below_alloc | apply pw_below_drewN | apply below_drew1 | refine below_set ?_ GE577.out | refine below_set ?_ GE578.out) | exact HB.out)⟩⟩
 case round =>
  clear H'
  try clear p2
  obtain ⟨x5_1, x14_1, rfl, rfl, HA, HK1, BK577, BK578, HB⟩ := hrel
  cases gk with
  | zero => exact absurd HA.out (by simp [comfitref04_pairs.l0])
  | succ k1 =>
   have H := HA.out
   clear HA
   simp only [comfitref04_pairs.l0] at H
   by_cases c5 : x14_1 < (l0.length : Int)
   ·rw [if_pos c5] at H
    have c5b0 : decide (x14_1 < (l0.length : Int)) = true := decide_eq_true c5
    clear c5
    by_cases c6 : 0 ≤ x14_1
    ·rw [if_pos c6] at H
     have c6b0 : decide (0 ≤ x14_1) = true := decide_eq_true c6
     clear c6
     by_cases c7 : x14_1 < (l0.length : Int)
     ·rw [if_pos c7] at H
      have c7b0 : decide (x14_1 < (l0.length : Int)) = true := decide_eq_true c7
      clear c7
      by_cases c8 : x14_1 = 0
      ·rw [if_pos c8] at H
       subst c8
       by_cases c9 : a1_0 > 0
       ·rw [if_pos c9] at H
        have c9b0 : decide (0 < a1_0) = true := decide_eq_true c9
        clear c9
        have H' := Aside0.mk H
        clear H
        have p579 : 0 ≤ (0 : Int) := (by omega)
        have q579 : 0 < (l0.length : Int) := of_decide_eq_true (by first | (with_reducible assumption) | assumption)
        obtain ⟨ad579, e579, hx579_0⟩ := Kd.at_int HR0.out 0 p579 q579
        cases e579
        have qi579 : (0 < l0.length) = True := eq_true (by omega)
        (try rw [show ((0 : Int)).toNat = 0 from rfl] at hx579_0)
        (try rw [Addr.add_zero'] at hx579_0)
        replace hx579_0 := (HB.out.cell (World.block_lt_of_cell? w _ hx579_0)).trans hx579_0
        replace p579 := eq_true p579
        replace q579 := eq_true q579
        have hnb10 := NB577_578.out
        have hnc10 := NB578_577.out
        have hcz11_0 : wr.cell? ⟨gb577, 0, none⟩ = some (.int .i64 a1_0) := (blk_cell BK577.out 0).trans rfl
        have hcz11_1 : wr.cell? ⟨gb577, 1, none⟩ = some (.int .i64 a1_1) := (blk_cell BK577.out 1).trans rfl
        have hcz11_2 : wr.cell? ⟨gb577, 2, none⟩ = some (.int .i64 a1_2) := (blk_cell BK577.out 2).trans rfl
        have hfz11_0 := blk_frozen BK577.out 0
        have hfz11_1 := blk_frozen BK577.out 1
        have hfz11_2 := blk_frozen BK577.out 2
        go_wp2
        go_roundg k1
        case measure => have := HK1.out; omega
        case rel => exact ⟨(wrap64 (x5_1 + (rd l0 0))), (1), (by first | rfl | (simp; done) | (simp [*]; done)), (by first | rfl | (simp; done) | (simp [*]; done)), H', ⟨by have := HK1.out; omega⟩, ⟨by (with_reducible repeat (first | refine blk_drewN ?_ _ | refine blk_drew ?_ | refine blk_alloc ?_ _)); exact BK577.out⟩, ⟨by (with_reducible repeat (first | refine blk_drewN ?_ _ | refine blk_drew ?_ | refine blk_alloc ?_ _)); exact BK578.out⟩, ⟨by repeat (first | (with_reducible first | exact HB.out | apply below_alloc | apply pw_below_drewN | apply below_drew1 | refine below_set ?_ GE577.out | refine below_set ?_ GE578.out) | exact HB.out)⟩⟩
       ·rw [if_neg c9] at H
        have c9b0 : decide (0 < a1_0) = false := decide_eq_false c9
        clear c9
        have H' := Aside0.mk H
        clear H
        have p579 : 0 ≤ (0 : Int) := (by omega)
        have q579 : 0 < (l0.length : Int) := of_decide_eq_true (by first | (with_reducible assumption) | assumption)
        obtain ⟨ad579, e579, hx579_0⟩ := Kd.at_int HR0.out 0 p579 q579
        cases e579
        have qi579 : (0 < l0.length) = True := eq_true (by omega)
        (try rw [show ((0 : Int)).toNat = 0 from rfl] at hx579_0)
        (try rw [Addr.add_zero'] at hx579_0)
        replace hx579_0 := (HB.out.cell (World.block_lt_of_cell? w _ hx579_0)).trans hx579_0
        replace p579 := eq_true p579
        replace q579 := eq_true q579
        have hnb12 := NB577_578.out
        have hnc12 := NB578_577.out
        have hcz13_0 : wr.cell? ⟨gb577, 0, none⟩ = some (.int .i64 a1_0) := (blk_cell BK577.out 0).trans rfl
        have hcz13_1 : wr.cell? ⟨gb577, 1, none⟩ = some (.int .i64 a1_1) := (blk_cell BK577.out 1).trans rfl
        have hcz13_2 : wr.cell? ⟨gb577, 2, none⟩ = some (.int .i64 a1_2) := (blk_cell BK577.out 2).trans rfl
        have hfz13_0 := blk_frozen BK577.out 0
        have hfz13_1 := blk_frozen BK577.out 1
        have hfz13_2 := blk_frozen BK577.out 2
        go_wp2
        go_roundg k1
        case measure => have := HK1.out; omega
        case rel => exact ⟨(x5_1), (1), (by first | rfl | (simp; done) | (simp [*]; done)), (by first | rfl | (simp; done) | (simp [*]; done)), H', ⟨by have := HK1.out; omega⟩, ⟨by (with_reducible repeat (first | refine blk_drewN ?_ _ | refine blk_drew ?_ | refine blk_alloc ?_ _)); exact BK577.out⟩, ⟨by (with_reducible repeat (first | refine blk_drewN ?_ _ | refine blk_drew ?_ | refine blk_alloc ?_ _)); exact BK578.out⟩, ⟨by repeat (first | (with_reducible first | exact HB.out | apply below_alloc | apply pw_below_drewN | apply below_drew1 | refine below_set ?_ GE577.out | refine below_set ?_ GE578.out) | exact HB.out)⟩⟩
      ·rw [if_neg c8] at H
       have c8b0 : (x14_1 == 0) = false := beq_eq_false_iff_ne.mpr c8
       have c8b1 : (x14_1 != 0) = true := bne_iff_ne.mpr c8
       by_cases c14 : x14_1 = 1
       ·rw [if_pos c14] at H
        subst c14
        by_cases c15 : a1_1 > 0
        ·rw [if_pos c15] at H
         have c15b0 : decide (0 < a1_1) = true := decide_eq_true c15
         clear c15
         have H' := Aside0.mk H
         clear H
         have p579 : 0 ≤ (1 : Int) := (by omega)
         have q579 : 1 < (l0.length : Int) := of_decide_eq_true (by first | (with_reducible assumption) | assumption)
         obtain ⟨ad579, e579, hx579_0⟩ := Kd.at_int HR0.out 1 p579 q579
         cases e579
         (try simp only [show (1 : Int).toNat = 1 from rfl, Nat.reduceMul, Nat.reduceEqDiff, Go.Addr.add, ↓reduceIte] at hx579_0)
         have qi579 : (1 < l0.length) = True := eq_true (by omega)
         (try rw [show ((1 : Int)).toNat = 1 from rfl] at hx579_0)
         replace hx579_0 := (HB.out.cell (World.block_lt_of_cell? w _ hx579_0)).trans hx579_0
         replace p579 := eq_true p579
         replace q579 := eq_true q579
         have hnb16 := NB577_578.out
         have hnc16 := NB578_577.out
         have hcz17_0 : wr.cell? ⟨gb577, 0, none⟩ = some (.int .i64 a1_0) := (blk_cell BK577.out 0).trans rfl
         have hcz17_1 : wr.cell? ⟨gb577, 1, none⟩ = some (.int .i64 a1_1) := (blk_cell BK577.out 1).trans rfl
         have hcz17_2 : wr.cell? ⟨gb577, 2, none⟩ = some (.int .i64 a1_2) := (blk_cell BK577.out 2).trans rfl
         have hfz17_0 := blk_frozen BK577.out 0
         have hfz17_1 := blk_frozen BK577.out 1
         have hfz17_2 := blk_frozen BK577.out 2
         go_wp2
         go_roundg k1
         case measure => have := HK1.out; omega
         case rel => exact ⟨(wrap64 (x5_1 + (rd l0 1))), (2), (by first | rfl | (simp; done) | (simp [*]; done)), (by first | rfl | (simp; done) | (simp [*]; done)), H', ⟨by have := HK1.out; omega⟩, ⟨by (with_reducible repeat (first | refine blk_drewN ?_ _ | refine blk_drew ?_ | refine blk_alloc ?_ _)); exact BK577.out⟩, ⟨by (with_reducible repeat (first | refine blk_drewN ?_ _ | refine blk_drew ?_ | refine blk_alloc ?_ _)); exact BK578.out⟩, ⟨by repeat (first | (with_reducible first | exact HB.out | apply below_alloc | apply pw_below_drewN | apply below_drew1 | refine below_set ?_ GE577.out | refine below_set ?_ GE578.out) | exact HB.out)⟩⟩
        ·rw [if_neg c15] at H
         have c15b0 : decide (0 < a1_1) = false := decide_eq_false c15
         clear c15
         have H' := Aside0.mk H
         clear H
         have p579 : 0 ≤ (1 : Int) := (by omega)
         have q579 : 1 < (l0.length : Int) := of_decide_eq_true (by first | (with_reducible assumption) | assumption)
         obtain ⟨ad579, e579, hx579_0⟩ := Kd.at_int HR0.out 1 p579 q579
         cases e579
         (try simp only [show (1 : Int).toNat = 1 from rfl, Nat.reduceMul, Nat.reduceEqDiff, Go.Addr.add, ↓reduceIte] at hx579_0)
         have qi579 : (1 < l0.length) = True := eq_true (by omega)
         (try rw [show ((1 : Int)).toNat = 1 from rfl] at hx579_0)
         replace hx579_0 := (HB.out.cell (World.block_lt_of_cell? w _ hx579_0)).trans hx579_0
         replace p579 := eq_true p579
         replace q579 := eq_true q579
         have hnb18 := NB577_578.out
         have hnc18 := NB578_577.out
         have hcz19_0 : wr.cell? ⟨gb577, 0, none⟩ = some (.int .i64 a1_0) := (blk_cell BK577.out 0).trans rfl
         have hcz19_1 : wr.cell? ⟨gb577, 1, none⟩ = some (.int .i64 a1_1) := (blk_cell BK577.out 1).trans rfl
         have hcz19_2 : wr.cell? ⟨gb577, 2, none⟩ = some (.int .i64 a1_2) := (blk_cell BK577.out 2).trans rfl
         have hfz19_0 := blk_frozen BK577.out 0
         have hfz19_1 := blk_frozen BK577.out 1
         have hfz19_2 := blk_frozen BK577.out 2
         go_wp2
         go_roundg k1
         case measure => have := HK1.out; omega
         case rel => exact ⟨(x5_1), (2), (by first | rfl | (simp; done) | (simp [*]; done)), (by first | rfl | (simp; done) | (simp [*]; done)), H', ⟨by have := HK1.out; omega⟩, ⟨by (with_reducible repeat (first | refine blk_drewN ?_ _ | refine blk_drew ?_ | refine blk_alloc ?_ _)); exact BK577.out⟩, ⟨by (with_reducible repeat (first | refine blk_drewN ?_ _ | refine blk_drew ?_ | refine blk_alloc ?_ _)); exact BK578.out⟩, ⟨by repeat (first | (with_reducible first | exact HB.out | apply below_alloc | apply pw_below_drewN | apply below_drew1 | refine below_set ?_ GE577.out | refine below_set ?_ GE578.out) | exact HB.out)⟩⟩
       ·rw [if_neg c14] at H
        have c14b0 : (x14_1 == 1) = false := beq_eq_false_iff_ne.mpr c14
        have c14b1 : (x14_1 != 1) = true := bne_iff_ne.mpr c14
        by_cases c20 : x14_1 = 2
        ·rw [if_pos c20] at H
         subst c20
         by_cases c21 : a1_2 > 0
         ·rw [if_pos c21] at H
          have c21b0 : decide (0 < a1_2) = true := decide_eq_true c21
          clear c21
          have H' := Aside0.mk H
          clear H
          have p579 : 0 ≤ (2 : Int) := (by omega)
          have q579 : 2 < (l0.length : Int) := of_decide_eq_true (by first | (with_reducible assumption) | assumption)
          obtain ⟨ad579, e579, hx579_0⟩ := Kd.at_int HR0.out 2 p579 q579
          cases e579
          (try simp only [show (2 : Int).toNat = 2 from rfl, Nat.reduceMul, Nat.reduceEqDiff, Go.Addr.add, ↓reduceIte] at hx579_0)
          have qi579 : (2 < l0.length) = True := eq_true (by omega)
          (try rw [show ((2 : Int)).toNat = 2 from rfl] at hx579_0)
          replace hx579_0 := (HB.out.cell (World.block_lt_of_cell? w _ hx579_0)).trans hx579_0
          replace p579 := eq_true p579
          replace q579 := eq_true q579
          have hnb22 := NB577_578.out
          have hnc22 := NB578_577.out
          have hcz23_0 : wr.cell? ⟨gb577, 0, none⟩ = some (.int .i64 a1_0) := (blk_cell BK577.out 0).trans rfl
          have hcz23_1 : wr.cell? ⟨gb577, 1, none⟩ = some (.int .i64 a1_1) := (blk_cell BK577.out 1).trans rfl
          have hcz23_2 : wr.cell? ⟨gb577, 2, none⟩ = some (.int .i64 a1_2) := (blk_cell BK577.out 2).trans rfl
          have hfz23_0 := blk_frozen BK577.out 0
          have hfz23_1 := blk_frozen BK577.out 1
          have hfz23_2 := blk_frozen BK577.out 2
          go_wp2
          go_roundg k1
          case measure => have := HK1.out; omega
          case rel => exact ⟨(wrap64 (x5_1 + (rd l0 2))), (3), (by first | rfl | (simp; done) | (simp [*]; done)), (by first | rfl | (simp; done) | (simp [*]; done)), H', ⟨by have := HK1.out; omega⟩, ⟨by (with_reducible repeat (first | refine blk_drewN ?_ _ | refine blk_drew ?_ | refine blk_alloc ?_ _)); exact BK577.out⟩, ⟨by (with_reducible repeat (first | refine blk_drewN ?_ _ | refine blk_drew ?_ | refine blk_alloc ?_ _)); exact BK578.out⟩, ⟨by repeat (first | (with_reducible first | exact HB.out | apply below_alloc | apply pw_below_drewN | apply below_drew1 | refine below_set ?_ GE577.out | refine below_set ?_ GE578.out) | exact HB.out)⟩⟩
         ·rw [if_neg c21] at H
          have c21b0 : decide (0 < a1_2) = false := decide_eq_false c21
          clear c21
          have H' := Aside0.mk H
          clear H
          have p579 : 0 ≤ (2 : Int) := (by omega)
          have q579 : 2 < (l0.length : Int) := of_decide_eq_true (by first | (with_reducible assumption) | assumption)
          obtain ⟨ad579, e579, hx579_0⟩ := Kd.at_int HR0.out 2 p579 q579
          cases e579
          (try simp only [show (2 : Int).toNat = 2 from rfl, Nat.reduceMul, Nat.reduceEqDiff, Go.Addr.add, ↓reduceIte] at hx579_0)
          have qi579 : (2 < l0.length) = True := eq_true (by omega)
          (try rw [show ((2 : Int)).toNat = 2 from rfl] at hx579_0)
          replace hx579_0 := (HB.out.cell (World.block_lt_of_cell? w _ hx579_0)).trans hx579_0
          replace p579 := eq_true p579
          replace q579 := eq_true q579
          have hnb24 := NB577_578.out
          have hnc24 := NB578_577.out
          have hcz25_0 : wr.cell? ⟨gb577, 0, none⟩ = some (.int .i64 a1_0) := (blk_cell BK577.out 0).trans rfl
          have hcz25_1 : wr.cell? ⟨gb577, 1, none⟩ = some (.int .i64 a1_1) := (blk_cell BK577.out 1).trans rfl
          have hcz25_2 : wr.cell? ⟨gb577, 2, none⟩ = some (.int .i64 a1_2) := (blk_cell BK577.out 2).trans rfl
          have hfz25_0 := blk_frozen BK577.out 0
          have hfz25_1 := blk_frozen BK577.out 1
          have hfz25_2 := blk_frozen BK577.out 2
          go_wp2
          go_roundg k1
          case measure => have := HK1.out; omega
          case rel => exact ⟨(x5_1), (3), (by first | rfl | (simp; done) | (simp [*]; done)), (by first | rfl | (simp; done) | (simp [*]; done)), H', ⟨by have := HK1.out; omega⟩, ⟨by (with_reducible repeat (first | refine blk_drewN ?_ _ | refine blk_drew ?_ | refine blk_alloc ?_ _)); exact BK577.out⟩, ⟨by (with_reducible repeat (first | refine blk_drewN ?_ _ | refine blk_drew ?_ | refine blk_alloc ?_ _)); exact BK578.out⟩, ⟨by repeat (first | (with_reducible first | exact HB.out | apply below_alloc | apply pw_below_drewN | apply below_drew1 | refine below_set ?_ GE577.out | refine below_set ?_ GE578.out) | exact HB.out)⟩⟩
        ·rw [if_neg c20] at H
         exact absurd H (by simp)
     ·rw [if_neg c7] at H
      exact absurd H (by simp)
    ·rw [if_neg c6] at H
     exact absurd H (by simp)
   ·rw [if_neg c5] at H
    have c5b0 : decide (x14_1 < (l0.length : Int)) = false := decide_eq_false c5
    clear c5
    by_cases c26 : x5_1 = 0
    ·rw [if_pos c26] at H
     have c26b0 : (x5_1 == 0) = true := beq_iff_eq.mpr c26
     have c26b1 : (x5_1 != 0) = false := bne_eq_false_iff_eq.mpr c26
     clear c26
     replace H := Option.bind_eq_some_iff.mp H
     obtain ⟨⟨t580, t581⟩, A270, H⟩ := H
     replace H : (some (t580, t581)) = some (r1, r2) := H
     have A27 := Aside0.mk A270
     clear A270
     simp only [Option.some.injEq, Prod.mk.injEq] at H
     obtain ⟨rfl, rfl⟩ := H
     go_wp2_with (first | ((with_reducible refine gate_callee (f := 59) rfl ?_); refine goesL_ (some 29) rfl rfl Try.func59 (by kernel_rfl) rfl #[.int .i64 0] rfl al_ ?_; (with_reducible refine (comfitref04_whole.calls 0 t580 t581 _ A27.out).mono ?_); rintro e w28 ⟨rfl, hb⟩; refine ⟨_, rfl, ?_⟩; have n0_ := Aside0.mk (bkb_ BK577.out hb); have n1_ := Aside0.mk (bkb_ BK578.out hb); have n2_ := Aside0.mk (below_step (hb_ HB.out) hb); clear BK577; clear BK578; clear HB; have BK577 := n0_; have BK578 := n1_; have HB := n2_; clear n0_ n1_ n2_; (try clear hb); (try clear hb2); (try clear hk); (try clear hi); have hnb29 := NB578_577.out; have hnc29 := NB577_578.out; have hcz30_0 : w28.cell? ⟨gb578, 0, none⟩ = some (.int .i64 0) := (blk_cell BK578.out 0).trans rfl; have hcz30_1 : w28.cell? ⟨gb578, 1, none⟩ = some (.int .i64 0) := (blk_cell BK578.out 1).trans rfl; have hfz30_0 := blk_frozen BK578.out 0; have hfz30_1 := blk_frozen BK578.out 1))
     refine bodyPost_ret (results_cell_row rfl _ _ gb578 25 #[.int .i64 t580, .int .i64 t581] (0, 0) _ rfl (by (with_reducible repeat (first | refine blk_drewN ?_ _ | refine blk_drew ?_ | refine blk_alloc ?_ _)); refine blk_put (cs := #[.int .i64 t580, .int .i64 0]) ?_ 1 _ rfl; (with_reducible repeat (first | refine blk_drewN ?_ _ | refine blk_drew ?_ | refine blk_alloc ?_ _)); refine blk_put (cs := #[.int .i64 0, .int .i64 0]) ?_ 0 _ rfl; (with_reducible repeat (first | refine blk_drewN ?_ _ | refine blk_drew ?_ | refine blk_alloc ?_ _)); exact BK578.out) Try.underlying25 rfl (by kernel_rfl)) rfl ?_
     exact ⟨by first | rfl | (simp [errW_none, errW_some] <;> rfl) | (simp [*, errW_none, errW_some] <;> rfl), by repeat (first | (with_reducible first | exact HB.out | apply below_alloc | apply pw_below_drewN | apply below_drew1 | refine below_set ?_ GE577.out | refine below_set ?_ GE578.out) | exact HB.out)⟩
    ·rw [if_neg c26] at H
     have c26b0 : (x5_1 == 0) = false := beq_eq_false_iff_ne.mpr c26
     have c26b1 : (x5_1 != 0) = true := bne_iff_ne.mpr c26
     obtain ⟨ji31, hji31⟩ : ∃ j_ : Int, (shl .i64 1 (l0.length : Int)) = j_ := ⟨_, rfl⟩
     replace H : ((comfitref04_Sum.f k1 l0 (wrap64 ((ji31) - 1))).bind fun t582 => ((comfitref04_frac.f k1 t582 x5_1).bind fun bt583 => (comfitref04_pairs.l1 k1 l0 x5_1 l0 (l0.length : Int) 0 a1_0 a1_1 a1_2 bt583.1 bt583.2))) = some (r1, r2) := by first | (rw [hji31] at H; exact H) | (simp only [hji31] at H ⊢; exact H)
     have hji31_ : (IntKind.i64.wrap (1 * 2 ^ min (l0.length : Int).toNat 64)) = ji31 := hji31
     have hji31z : (l0.length : Int) ≤ 64 → (IntKind.i64.wrap (1 * 2 ^ (l0.length : Int).toNat)) = ji31 := shl_small hji31
     have hji31p : (IntKind.i64.wrap (1 * 2 ^ min l0.length 64)) = ji31 := hji31_
     have hji31q : (l0.length : Int) ≤ 64 → (IntKind.i64.wrap (1 * 2 ^ l0.length)) = ji31 := hji31z
     have hji31r : (IntKind.i64.wrap (2 ^ min l0.length 64)) = ji31 := by have h_ := hji31p; rw [Int.one_mul] at h_; exact h_
     have hji31s : (l0.length : Int) ≤ 64 → (IntKind.i64.wrap (2 ^ l0.length)) = ji31 := fun hle_ => by have h_ := hji31q hle_; rw [Int.one_mul] at h_; exact h_
     have hji31u : (IntKind.i64.wrap (2 ^ min (l0.length : Int).toNat 64)) = ji31 := by have h_ := hji31_; rw [Int.one_mul] at h_; exact h_
     have hji31v : (l0.length : Int) ≤ 64 → (IntKind.i64.wrap (2 ^ (l0.length : Int).toNat)) = ji31 := fun hle_ => by have h_ := hji31z hle_; rw [Int.one_mul] at h_; exact h_
     have hji31y : (wrap64 (1 * 2 ^ min (l0.length : Int).toNat 64)) = ji31 := (i64_w _).symm.trans hji31_
     have hji31x : (l0.length : Int) ≤ 64 → (wrap64 (1 * 2 ^ (l0.length : Int).toNat)) = ji31 := fun h_ => (i64_w _).symm.trans (hji31z h_)
     replace H := Option.bind_eq_some_iff.mp H
     obtain ⟨t582, A320, H⟩ := H
     replace H : ((comfitref04_frac.f k1 t582 x5_1).bind fun bt583 => (comfitref04_pairs.l1 k1 l0 x5_1 l0 (l0.length : Int) 0 a1_0 a1_1 a1_2 bt583.1 bt583.2)) = some (r1, r2) := H
     have A32 := Aside0.mk A320
     clear A320
     replace H := Option.bind_eq_some_iff.mp H
     obtain ⟨⟨t583, t584⟩, A330, H⟩ := H
     replace H : (comfitref04_pairs.l1 k1 l0 x5_1 l0 (l0.length : Int) 0 a1_0 a1_1 a1_2 t583 t584) = some (r1, r2) := H
     have A33 := Aside0.mk A330
     clear A330
     have H' := Aside0.mk H
     clear H
     go_wp2_with (first | ((with_reducible refine gate_callee (f := 25) rfl ?_); refine goesL_ (some 35) rfl rfl Try.func25 (by kernel_rfl) rfl #[.slice A0 l0.length c0, .int .i64 (wrap64 ((ji31) - 1))] rfl (by (try simp only [List.map_toArray, List.map_cons, List.map_nil]); first | done | (simp only [hji31]; rfl) | rfl | (simp only [List.length_drop, List.length_take]; rfl)) ?_; (with_reducible refine (comfitref04_Sum.calls k1 _ _ l0 (wrap64 ((ji31) - 1)) t582 _ ?side1 ?side2 A32.out).mono ?_); (case side1 => exact kc_ (Kd.C_below HR0.out HB.out)); (case side2 => exact HC0.out); rintro e w' ⟨rfl, ⟨nd, rfl⟩⟩; refine ⟨_, rfl, ?_⟩; (try (rw [drewN_self wr]; generalize hq_ : World.drewN wr _ = wr; have n0_ : Aside0 (wr.heap[gb577]? = some (.cells #[.int .i64 a1_0, .int .i64 a1_1, .int .i64 a1_2] 67 (0, 0))) := ⟨by rw [← hq_]; exact (bk_ BK577.out)⟩; have n1_ : Aside0 (wr.heap[gb578]? = some (.cells #[.int .i64 0, .int .i64 0] 25 (0, 0))) := ⟨by rw [← hq_]; exact (bk_ BK578.out)⟩; have n2_ : Aside0 (Below w.heap.size w wr) := ⟨by rw [← hq_]; exact (hb_ HB.out)⟩; clear BK577 BK578 HB hq_; have BK577 := n0_; have BK578 := n1_; have HB := n2_; clear n0_ n1_ n2_))) | ((with_reducible refine gate_callee (f := 60) rfl ?_); refine goesL_ (some 37) rfl rfl Try.func60 (by kernel_rfl) rfl #[.int .i64 t582, .int .i64 x5_1] rfl al_ ?_; (with_reducible refine (comfitref04_frac.calls k1 t582 x5_1 t583 t584 _ A33.out).mono ?_); rintro e w34 ⟨rfl, hb⟩; refine ⟨_, rfl, ?_⟩; have n0_ := Aside0.mk (bkb_ BK577.out hb); have n1_ := Aside0.mk (bkb_ BK578.out hb); have n2_ := Aside0.mk (below_step (hb_ HB.out) hb); clear BK577; clear BK578; clear HB; have BK577 := n0_; have BK578 := n1_; have HB := n2_; clear n0_ n1_ n2_; (try clear hb); (try clear hb2); (try clear hk); (try clear hi)) | ((with_reducible refine gate_dst (N := 8) rfl ?_); refine box_event ?hg (N := 8) ?hd (cs := #[.int .i64 0, .int .i64 0]) (t := 25) ?hr ?_; (case hd => rfl); (case hg => rfl); (case hr => first | (go_simp; done) | (go_simp; rfl)); intro gb585 hg w35 hbox hb; have n0_ := Aside0.mk (bkb_ BK577.out hb); have n1_ := Aside0.mk (bkb_ BK578.out hb); have n2_ := Aside0.mk (below_step (hb_ HB.out) hb); have n3_ := Aside0.mk (hbox); have n4_ := Aside0.mk ((by rw [hg]; exact (below_size (hb_ HB.out)) : w.heap.size ≤ gb585)); have n5_ := Aside0.mk ((by rw [hg]; exact (below_size (hb_ HB.out)) : w.heap.size ≤ gb585)); have n6_ := Aside0.mk ((by rw [hg]; exact Nat.ne_of_lt (bkl_ BK577.out) : gb577 ≠ gb585)); have n7_ := Aside0.mk ((by rw [hg]; exact Nat.ne_of_gt (bkl_ BK577.out) : gb585 ≠ gb577)); have n8_ := Aside0.mk ((by rw [hg]; exact Nat.ne_of_lt (bkl_ BK578.out) : gb578 ≠ gb585)); have n9_ := Aside0.mk ((by rw [hg]; exact Nat.ne_of_gt (bkl_ BK578.out) : gb585 ≠ gb578)); clear BK577; clear BK578; clear HB; have BK577 := n0_; have BK578 := n1_; have HB := n2_; have BK585 := n3_; have GW585 := n4_; have GE585 := n5_; have NB577_585 := n6_; have NB585_577 := n7_; have NB578_585 := n8_; have NB585_578 := n9_; clear n0_ n1_ n2_ n3_ n4_ n5_ n6_ n7_ n8_ n9_; clear hb hbox hg; have hnb36 := NB585_577.out; have hnc36 := NB577_585.out; have hnb37 := NB585_578.out; have hnc37 := NB578_585.out; have hcz38_0 : w35.cell? ⟨gb585, 0, none⟩ = some (.int .i64 0) := (blk_cell BK585.out 0).trans rfl; have hcz38_1 : w35.cell? ⟨gb585, 1, none⟩ = some (.int .i64 0) := (blk_cell BK585.out 1).trans rfl; have hfz38_0 := blk_frozen BK585.out 0; have hfz38_1 := blk_frozen BK585.out 1))
     go_loopg [40] k1 (fun kq v40 w' => ∃ (x40_2 : Int) (x586000_2 : Int) (x586001_2 : Int), v40 = .int .i64 x40_2 ∧ Aside0 (comfitref04_pairs.l1 kq l0 x5_1 l0 (l0.length : Int) x40_2 a1_0 a1_1 a1_2 x586000_2 x586001_2 = some (r1, r2)) ∧ Aside0 (kq ≤ k1) ∧ Aside0 (w'.heap[gb577]? = some (.cells #[.int .i64 a1_0, .int .i64 a1_1, .int .i64 a1_2] 67 (0, 0))) ∧ Aside0 (w'.heap[gb578]? = some (.cells #[.int .i64 0, .int .i64 0] 25 (0, 0))) ∧ Aside0 (w'.heap[gb585]? = some (.cells #[.int .i64 x586000_2, .int .i64 x586001_2] 25 (0, 0))) ∧ Aside0 (Below w.heap.size w w'))
     case atStart => exact ⟨(0), (t583), (t584), (by first | rfl | (simp; done) | (simp [*]; done)), H', ⟨Nat.le_refl _⟩, ⟨by (with_reducible repeat (first | refine blk_drewN ?_ _ | refine blk_drew ?_ | refine blk_alloc ?_ _)); refine blk_far ?_ NB577_585.out _; (with_reducible repeat (first | refine blk_drewN ?_ _ | refine blk_drew ?_ | refine blk_alloc ?_ _)); refine blk_far ?_ NB577_585.out _; (with_reducible repeat (first | refine blk_drewN ?_ _ | refine blk_drew ?_ | refine blk_alloc ?_ _)); exact BK577.out⟩, ⟨by (with_reducible repeat (first | refine blk_drewN ?_ _ | refine blk_drew ?_ | refine blk_alloc ?_ _)); refine blk_far ?_ NB578_585.out _; (with_reducible repeat (first | refine blk_drewN ?_ _ | refine blk_drew ?_ | refine blk_alloc ?_ _)); refine blk_far ?_ NB578_585.out _; (with_reducible repeat (first | refine blk_drewN ?_ _ | refine blk_drew ?_ | refine blk_alloc ?_ _)); exact BK578.out⟩, ⟨by (with_reducible repeat (first | refine blk_drewN ?_ _ | refine blk_drew ?_ | refine blk_alloc ?_ _)); refine blk_put (cs := #[.int .i64 t583, .int .i64 0]) ?_ 1 _ rfl; (with_reducible repeat (first | refine blk_drewN ?_ _ | refine blk_drew ?_ | refine blk_alloc ?_ _)); refine blk_put (cs := #[.int .i64 0, .int .i64 0]) ?_ 0 _ rfl; (with_reducible repeat (first | refine blk_drewN ?_ _ | refine blk_drew ?_ | refine blk_alloc ?_ _)); exact BK585.out⟩, ⟨by repeat (first | (with_reducible first | exact HB.out | apply below_alloc | apply pw_below_drewN | apply below_drew1 | refine below_set ?_ GE577.out | refine below_set ?_ GE578.out | refine below_set ?_ GE585.out) | exact HB.out)⟩⟩
     case round =>
      clear H'
      try clear c1
      try clear c2
      try clear p2
      try clear c3
      try clear c5
      try clear c5b0
      try clear p5
      try clear q5
      try clear hx5
      try clear qi5
      try clear c6
      try clear c6b0
      try clear p6
      try clear c7
      try clear c7b0
      try clear c8
      try clear c8b0
      try clear c8b1
      try clear c9
      try clear c9b0
      try clear c10
      try clear c12
      try clear c14
      try clear c14b0
      try clear c14b1
      try clear c15
      try clear c15b0
      try clear c16
      try clear c18
      try clear c20
      try clear c21
      try clear c21b0
      try clear c22
      try clear c24
      try clear c25
      try clear c26
      try clear c26b0
      try clear c26b1
      try clear c29
      try clear c36
      try clear c37
      try clear hcz11_0
      try clear hcz11_1
      try clear hcz11_2
      try clear hcz13_0
      try clear hcz13_1
      try clear hcz13_2
      try clear hcz17_0
      try clear hcz17_1
      try clear hcz17_2
      try clear hcz19_0
      try clear hcz19_1
      try clear hcz19_2
      try clear hcz23_0
      try clear hcz23_1
      try clear hcz23_2
      try clear hcz25_0
      try clear hcz25_1
      try clear hcz25_2
      try clear hcz30_0
      try clear hcz30_1
      try clear hcz38_0
      try clear hcz38_1
      try clear hfz11_0
      try clear hfz11_1
      try clear hfz11_2
      try clear hfz13_0
      try clear hfz13_1
      try clear hfz13_2
      try clear hfz17_0
      try clear hfz17_1
      try clear hfz17_2
      try clear hfz19_0
      try clear hfz19_1
      try clear hfz19_2
      try clear hfz23_0
      try clear hfz23_1
      try clear hfz23_2
      try clear hfz25_0
      try clear hfz25_1
      try clear hfz25_2
      try clear hfz30_0
      try clear hfz30_1
      try clear hfz38_0
      try clear hfz38_1
      try clear hx579_0
      try clear p2
      try clear p579
      try clear q579
      obtain ⟨x40_2, x586000_2, x586001_2, rfl, HA, HK2, BK577, BK578, BK585, HB⟩ := hrel
      cases gk with
      | zero => exact absurd HA.out (by simp [comfitref04_pairs.l1])
      | succ k2 =>
       have H := HA.out
       clear HA
       simp only [comfitref04_pairs.l1] at H
       by_cases c39 : x40_2 < (l0.length : Int)
       ·rw [if_pos c39] at H
        have c39b0 : decide (x40_2 < (l0.length : Int)) = true := decide_eq_true c39
        clear c39
        by_cases c40 : 0 ≤ x40_2
        ·rw [if_pos c40] at H
         have c40b0 : decide (0 ≤ x40_2) = true := decide_eq_true c40
         clear c40
         by_cases c41 : x40_2 < (l0.length : Int)
         ·rw [if_pos c41] at H
          have c41b0 : decide (x40_2 < (l0.length : Int)) = true := decide_eq_true c41
          clear c41
          by_cases c42 : x40_2 = 0
          ·rw [if_pos c42] at H
           subst c42
           by_cases c43 : a1_0 > 0
           ·rw [if_pos c43] at H
            have c43b0 : decide (0 < a1_0) = true := decide_eq_true c43
            clear c43
            replace H := Option.bind_eq_some_iff.mp H
            obtain ⟨⟨t588, t589⟩, A440, H⟩ := H
            replace H : ((comfitref04_pairs.f k2 l0 (wrap64 (a1_0 - 1)) a1_1 a1_2).bind fun bt590 => ((comfitref04_times.f k2 t588 t589 bt590.1 bt590.2).bind fun bt592 => ((comfitref04_Plus.f k2 x586000_2 x586001_2 bt592.1 bt592.2).bind fun bt594 => (comfitref04_pairs.l1 k2 l0 x5_1 l0 (l0.length : Int) 1 a1_0 a1_1 a1_2 bt594.1 bt594.2)))) = some (r1, r2) := H
            have A44 := Aside0.mk A440
            clear A440
            replace H := Option.bind_eq_some_iff.mp H
            obtain ⟨⟨t590, t591⟩, A450, H⟩ := H
            replace H : ((comfitref04_times.f k2 t588 t589 t590 t591).bind fun bt592 => ((comfitref04_Plus.f k2 x586000_2 x586001_2 bt592.1 bt592.2).bind fun bt594 => (comfitref04_pairs.l1 k2 l0 x5_1 l0 (l0.length : Int) 1 a1_0 a1_1 a1_2 bt594.1 bt594.2))) = some (r1, r2) := H
            have A45 := Aside0.mk A450
            clear A450
            replace H := Option.bind_eq_some_iff.mp H
            obtain ⟨⟨t592, t593⟩, A460, H⟩ := H
            replace H : ((comfitref04_Plus.f k2 x586000_2 x586001_2 t592 t593).bind fun bt594 => (comfitref04_pairs.l1 k2 l0 x5_1 l0 (l0.length : Int) 1 a1_0 a1_1 a1_2 bt594.1 bt594.2)) = some (r1, r2) := H
            have A46 := Aside0.mk A460
            clear A460
            replace H := Option.bind_eq_some_iff.mp H
            obtain ⟨⟨t594, t595⟩, A470, H⟩ := H
            replace H : (comfitref04_pairs.l1 k2 l0 x5_1 l0 (l0.length : Int) 1 a1_0 a1_1 a1_2 t594 t595) = some (r1, r2) := H
            have A47 := Aside0.mk A470
            clear A470
            have H' := Aside0.mk H
            clear H
            have p586 : 0 ≤ (0 : Int) := (by omega)
            have q586 : 0 < (l0.length : Int) := of_decide_eq_true (by first | (with_reducible assumption) | assumption)
            obtain ⟨ad586, e586, hx586_0⟩ := Kd.at_int HR0.out 0 p586 q586
            cases e586
            have qi586 : (0 < l0.length) = True := eq_true (by omega)
            (try rw [show ((0 : Int)).toNat = 0 from rfl] at hx586_0)
            (try rw [Addr.add_zero'] at hx586_0)
            replace hx586_0 := (HB.out.cell (World.block_lt_of_cell? w _ hx586_0)).trans hx586_0
            replace p586 := eq_true p586
            replace q586 := eq_true q586
            have hnb48 := NB577_578.out
            have hnc48 := NB578_577.out
            have hnb49 := NB577_585.out
            have hnc49 := NB585_577.out
            have hcz50_0 : wr.cell? ⟨gb577, 0, none⟩ = some (.int .i64 a1_0) := (blk_cell BK577.out 0).trans rfl
            have hcz50_1 : wr.cell? ⟨gb577, 1, none⟩ = some (.int .i64 a1_1) := (blk_cell BK577.out 1).trans rfl
            have hcz50_2 : wr.cell? ⟨gb577, 2, none⟩ = some (.int .i64 a1_2) := (blk_cell BK577.out 2).trans rfl
            have hfz50_0 := blk_frozen BK577.out 0
            have hfz50_1 := blk_frozen BK577.out 1
            have hfz50_2 := blk_frozen BK577.out 2
            try go_wp2_with (first | ((with_reducible refine gate_dst (N := 11) rfl ?_); refine box_event ?hg (N := 11) ?hd (cs := #[.int .i64 0, .int .i64 0, .int .i64 0]) (t := 67) ?hr ?_; (case hd => rfl); (case hg => rfl); (case hr => first | (go_simp; done) | (go_simp; rfl)); intro gb587 hg w51 hbox hb; have n0_ := Aside0.mk (bkb_ BK577.out hb); have n1_ := Aside0.mk (bkb_ BK578.out hb); have n2_ := Aside0.mk (bkb_ BK585.out hb); have n3_ := Aside0.mk (below_step (hb_ HB.out) hb); have n4_ := Aside0.mk (hbox); have n5_ := Aside0.mk ((by rw [hg]; exact (below_size (hb_ HB.out)) : w.heap.size ≤ gb587)); have n6_ := Aside0.mk ((by rw [hg]; exact (below_size (hb_ HB.out)) : w.heap.size ≤ gb587)); have n7_ := Aside0.mk ((by rw [hg]; exact Nat.ne_of_lt (bkl_ BK577.out) : gb577 ≠ gb587)); have n8_ := Aside0.mk ((by rw [hg]; exact Nat.ne_of_gt (bkl_ BK577.out) : gb587 ≠ gb577)); have n9_ := Aside0.mk ((by rw [hg]; exact Nat.ne_of_lt (bkl_ BK578.out) : gb578 ≠ gb587)); have n10_ := Aside0.mk ((by rw [hg]; exact Nat.ne_of_gt (bkl_ BK578.out) : gb587 ≠ gb578)); have n11_ := Aside0.mk ((by rw [hg]; exact Nat.ne_of_lt (bkl_ BK585.out) : gb585 ≠ gb587)); have n12_ := Aside0.mk ((by rw [hg]; exact Nat.ne_of_gt (bkl_ BK585.out) : gb587 ≠ gb585)); clear BK577; clear BK578; clear BK585; clear HB; have BK577 := n0_; have BK578 := n1_; have BK585 := n2_; have HB := n3_; have BK587 := n4_; have GW587 := n5_; have GE587 := n6_; have NB577_587 := n7_; have NB587_577 := n8_; have NB578_587 := n9_; have NB587_578 := n10_; have NB585_587 := n11_; have NB587_585 := n12_; clear n0_ n1_ n2_ n3_ n4_ n5_ n6_ n7_ n8_ n9_ n10_ n11_ n12_; clear hb hbox hg; have hnb52 := NB587_577.out; have hnc52 := NB577_587.out; have hnb53 := NB587_578.out; have hnc53 := NB578_587.out; have hnb54 := NB587_585.out; have hnc54 := NB585_587.out; have hcz55_0 : w51.cell? ⟨gb587, 0, none⟩ = some (.int .i64 0) := (blk_cell BK587.out 0).trans rfl; have hcz55_1 : w51.cell? ⟨gb587, 1, none⟩ = some (.int .i64 0) := (blk_cell BK587.out 1).trans rfl; have hcz55_2 : w51.cell? ⟨gb587, 2, none⟩ = some (.int .i64 0) := (blk_cell BK587.out 2).trans rfl; have hfz55_0 := blk_frozen BK587.out 0; have hfz55_1 := blk_frozen BK587.out 1; have hfz55_2 := blk_frozen BK587.out 2))
            have n0_ : Aside0 (((((w51.setCell ⟨gb587, 0, none⟩ (.int .i64 a1_0)).setCell ⟨gb587, 1, none⟩ (.int .i64 a1_1)).setCell ⟨gb587, 2, none⟩ (.int .i64 a1_2)).setCell ⟨gb587, 0, none⟩ (.int .i64 (wrap64 (a1_0 - 1)))).heap[gb577]? = some (.cells #[.int .i64 a1_0, .int .i64 a1_1, .int .i64 a1_2] 67 (0, 0))) := ⟨by (with_reducible repeat (first | refine blk_drewN ?_ _ | refine blk_drew ?_ | refine blk_alloc ?_ _)); refine blk_far ?_ NB577_587.out _; (with_reducible repeat (first | refine blk_drewN ?_ _ | refine blk_drew ?_ | refine blk_alloc ?_ _)); refine blk_far ?_ NB577_587.out _; (with_reducible repeat (first | refine blk_drewN ?_ _ | refine blk_drew ?_ | refine blk_alloc ?_ _)); refine blk_far ?_ NB577_587.out _; (with_reducible repeat (first | refine blk_drewN ?_ _ | refine blk_drew ?_ | refine blk_alloc ?_ _)); refine blk_far ?_ NB577_587.out _; (with_reducible repeat (first | refine blk_drewN ?_ _ | refine blk_drew ?_ | refine blk_alloc ?_ _)); exact BK577.out⟩
            have n1_ : Aside0 (((((w51.setCell ⟨gb587, 0, none⟩ (.int .i64 a1_0)).setCell ⟨gb587, 1, none⟩ (.int .i64 a1_1)).setCell ⟨gb587, 2, none⟩ (.int .i64 a1_2)).setCell ⟨gb587, 0, none⟩ (.int .i64 (wrap64 (a1_0 - 1)))).heap[gb578]? = some (.cells #[.int .i64 0, .int .i64 0] 25 (0, 0))) := ⟨by (with_reducible repeat (first | refine blk_drewN ?_ _ | refine blk_drew ?_ | refine blk_alloc ?_ _)); refine blk_far ?_ NB578_587.out _; (with_reducible repeat (first | refine blk_drewN ?_ _ | refine blk_drew ?_ | refine blk_alloc ?_ _)); refine blk_far ?_ NB578_587.out _; (with_reducible repeat (first | refine blk_drewN ?_ _ | refine blk_drew ?_ | refine blk_alloc ?_ _)); refine blk_far ?_ NB578_587.out _; (with_reducible repeat (first | refine blk_drewN ?_ _ | refine blk_drew ?_ | refine blk_alloc ?_ _)); refine blk_far ?_ NB578_587.out _; (with_reducible repeat (first | refine blk_drewN ?_ _ | refine blk_drew ?_ | refine blk_alloc ?_ _)); exact BK578.out⟩
            have n2_ : Aside0 (((((w51.setCell ⟨gb587, 0, none⟩ (.int .i64 a1_0)).setCell ⟨gb587, 1, none⟩ (.int .i64 a1_1)).setCell ⟨gb587, 2, none⟩ (.int .i64 a1_2)).setCell ⟨gb587, 0, none⟩ (.int .i64 (wrap64 (a1_0 - 1)))).heap[gb585]? = some (.cells #[.int .i64 x586000_2, .int .i64 x586001_2] 25 (0, 0))) := ⟨by (with_reducible repeat (first | refine blk_drewN ?_ _ | refine blk_drew ?_ | refine blk_alloc ?_ _)); refine blk_far ?_ NB585_587.out _; (with_reducible repeat (first | refine blk_drewN ?_ _ | refine blk_drew ?_ | refine blk_alloc ?_ _)); refine blk_far ?_ NB585_587.out _; (with_reducible repeat (first | refine blk_drewN ?_ _ | refine blk_drew ?_ | refine blk_alloc ?_ _)); refine blk_far ?_ NB585_587.out _; (with_reducible repeat (first | refine blk_drewN ?_ _ | refine blk_drew ?_ | refine blk_alloc ?_ _)); refine blk_far ?_ NB585_587.out _; (with_reducible repeat (first | refine blk_drewN ?_ _ | refine blk_drew ?_ | refine blk_alloc ?_ _)); exact BK585.out⟩
            have n3_ : Aside0 (((((w51.setCell ⟨gb587, 0, none⟩ (.int .i64 a1_0)).setCell ⟨gb587, 1, none⟩ (.int .i64 a1_1)).setCell ⟨gb587, 2, none⟩ (.int .i64 a1_2)).setCell ⟨gb587, 0, none⟩ (.int .i64 (wrap64 (a1_0 - 1)))).heap[gb587]? = some (.cells #[.int .i64 (wrap64 (a1_0 - 1)), .int .i64 a1_1, .int .i64 a1_2] 67 (0, 0))) := ⟨by (with_reducible repeat (first | refine blk_drewN ?_ _ | refine blk_drew ?_ | refine blk_alloc ?_ _)); refine blk_put (cs := #[.int .i64 a1_0, .int .i64 a1_1, .int .i64 a1_2]) ?_ 0 _ rfl; (with_reducible repeat (first | refine blk_drewN ?_ _ | refine blk_drew ?_ | refine blk_alloc ?_ _)); refine blk_put (cs := #[.int .i64 a1_0, .int .i64 a1_1, .int .i64 0]) ?_ 2 _ rfl; (with_reducible repeat (first | refine blk_drewN ?_ _ | refine blk_drew ?_ | refine blk_alloc ?_ _)); refine blk_put (cs := #[.int .i64 a1_0, .int .i64 0, .int .i64 0]) ?_ 1 _ rfl; (with_reducible repeat (first | refine blk_drewN ?_ _ | refine blk_drew ?_ | refine blk_alloc ?_ _)); refine blk_put (cs := #[.int .i64 0, .int .i64 0, .int .i64 0]) ?_ 0 _ rfl; (with_reducible repeat (first | refine blk_drewN ?_ _ | refine blk_drew ?_ | refine blk_alloc ?_ _)); exact BK587.out⟩
            have n4_ : Aside0 (Below w.heap.size w ((((w51.setCell ⟨gb587, 0, none⟩ (.int .i64 a1_0)).setCell ⟨gb587, 1, none⟩ (.int .i64 a1_1)).setCell ⟨gb587, 2, none⟩ (.int .i64 a1_2)).setCell ⟨gb587, 0, none⟩ (.int .i64 (wrap64 (a1_0 - 1))))) := ⟨by repeat (first | (with_reducible first | exact HB.out | apply below_alloc | apply pw_below_drewN | apply below_drew1 | refine below_set ?_ GE577.out | refine below_set ?_ GE578.out | refine below_set ?_ GE585.out | refine below_set ?_ GE587.out) | exact HB.out)⟩
            (try clear BK577)
            (try clear BK578)
            (try clear BK585)
            (try clear BK587)
            (try clear HB)
            generalize ((((w51.setCell ⟨gb587, 0, none⟩ (.int .i64 a1_0)).setCell ⟨gb587, 1, none⟩ (.int .i64 a1_1)).setCell ⟨gb587, 2, none⟩ (.int .i64 a1_2)).setCell ⟨gb587, 0, none⟩ (.int .i64 (wrap64 (a1_0 - 1)))) = w56 at n0_ n1_ n2_ n3_ n4_ ⊢
            have BK577 := n0_
            have BK578 := n1_
            have BK585 := n2_
            have BK587 := n3_
            have HB := n4_
            clear n0_ n1_ n2_ n3_ n4_
            have n0_ := Aside0.mk (blk_drew BK577.out)
            have n1_ := Aside0.mk (blk_drew BK578.out)
            have n2_ := Aside0.mk (blk_drew BK585.out)
            have n3_ := Aside0.mk (blk_drew BK587.out)
            have n4_ := Aside0.mk (below_drew1 HB.out)
            clear BK577
            clear BK578
            clear BK585
            clear BK587
            clear HB
            have BK577 := n0_
            have BK578 := n1_
            have BK585 := n2_
            have BK587 := n3_
            have HB := n4_
            clear n0_ n1_ n2_ n3_ n4_
            refine start_ (n := 10) (S := fun w' => w'.cell? ⟨gb585, 0, none⟩ = some (.int .i64 x586000_2) ∧ w'.cell? ⟨gb585, 1, none⟩ = some (.int .i64 x586001_2) ∧ w'.cell? ⟨gb587, 0, none⟩ = some (.int .i64 (wrap64 (a1_0 - 1))) ∧ w'.cell? ⟨gb587, 1, none⟩ = some (.int .i64 a1_1) ∧ w'.cell? ⟨gb587, 2, none⟩ = some (.int .i64 a1_2)) (ds := [9]) #[false, false, false, false, false, false, false, false, false, false] (by kernel_rfl) rfl rfl ⟨(blk_cell BK585.out 0).trans rfl, (blk_cell BK585.out 1).trans rfl, (blk_cell BK587.out 0).trans rfl, (blk_cell BK587.out 1).trans rfl, (blk_cell BK587.out 2).trans rfl⟩ (fun hHeld => ?_); refine with_tabW comfitref04_pairs.tab17 comfitref04_pairs.bits17 (fun HT_ HW_ => ?_)
            generalize w56.drew = w57 at BK577 BK578 BK585 BK587 HB hHeld ⊢
            refine pure_ (i := 1) (N := some 56) (v := ?_) (a' := ?_) #[false, true, false, false, false, false, false, false, false, false] rfl rfl (any_of HT_.out (by kernel_rfl)) (fun _ _ _ h => h) (Or.inl ⟨by rfl, ?_⟩) ?_ ?_
            rotate_left
            ·intro w'
             go_simp
             with_reducible rfl
            rotate_left
            ·simp only [Act.put, List.setIfInBounds_toArray, List.set_cons_zero, List.set_cons_succ, i64_w, i32_w]
             rfl
            refine pure_ (i := 2) (N := some 57) (v := ?_) (a' := ?_) #[false, true, true, false, false, false, false, false, false, false] rfl rfl (any_of HT_.out (by kernel_rfl)) (fun _ _ _ h => h) (Or.inl ⟨by rfl, ?_⟩) ?_ ?_
            rotate_left
            ·intro w'
             go_simp
             with_reducible rfl
            rotate_left
            ·simp only [Act.put, List.setIfInBounds_toArray, List.set_cons_zero, List.set_cons_succ, i64_w, i32_w]
             rfl
            refine pure_ (i := 4) (N := some 59) (v := ?_) (a' := ?_) #[false, true, true, false, true, false, false, false, false, false] rfl rfl (any_of HT_.out (by kernel_rfl)) (fun _ _ _ h => h) (Or.inl ⟨by rfl, ?_⟩) ?_ ?_
            rotate_left
            ·intro w'
             go_simp
             with_reducible rfl
            rotate_left
            ·simp only [Act.put, List.setIfInBounds_toArray, List.set_cons_zero, List.set_cons_succ, i64_w, i32_w]
             rfl
            refine take_ (i := 0) (N := some 55) (v := ?_) (a' := ?_) #[true, true, true, false, true, false, false, false, false, false] rfl rfl (take_ofW HT_.out HW_.out (by kernel_rfl)) (fun _ _ _ h => h) (Or.inl ⟨by rfl, ?_⟩) hHeld ?_ ?_
            rotate_left
            ·rintro w' ⟨s0, s1, s2, s3, s4⟩
             go_simp
             with_reducible rfl
            rotate_left
            ·simp only [Act.put, List.setIfInBounds_toArray, List.set_cons_zero, List.set_cons_succ, i64_w, i32_w]
             rfl
            refine take_ (i := 5) (N := some 60) (v := ?_) (a' := ?_) #[true, true, true, false, true, true, false, false, false, false] rfl rfl (take_ofW HT_.out HW_.out (by kernel_rfl)) (fun _ _ _ h => h) (Or.inl ⟨by rfl, ?_⟩) hHeld ?_ ?_
            rotate_left
            ·rintro w' ⟨s0, s1, s2, s3, s4⟩
             go_simp
             with_reducible rfl
            rotate_left
            ·simp only [Act.put, List.setIfInBounds_toArray, List.set_cons_zero, List.set_cons_succ, i64_w, i32_w]
             rfl
            refine one_ (i := 3) (N := some 58) #[true, true, true, true, true, true, false, false, false, false] rfl rfl (one_of HT_.out (by kernel_rfl)) (by decide) (fun K hK => ?_)
            refine goes_ Try.func60 (by kernel_rfl) rfl #[.int .i64 (rd l0 0), .int .i64 x5_1] (by rfl) rfl rfl al_ ?_
            with_reducible refine (comfitref04_frac.calls k2 (rd l0 0) x5_1 t588 t589 _ A44.out).mono ?_
            rintro e w58 ⟨rfl, hb⟩
            refine ⟨_, rfl, ?_⟩
            have n0_ := Aside0.mk (bkb_ BK577.out hb)
            have n1_ := Aside0.mk (bkb_ BK578.out hb)
            have n2_ := Aside0.mk (bkb_ BK585.out hb)
            have n3_ := Aside0.mk (bkb_ BK587.out hb)
            have n4_ := Aside0.mk (below_step (hb_ HB.out) hb)
            clear BK577
            clear BK578
            clear BK585
            clear BK587
            clear HB
            have BK577 := n0_
            have BK578 := n1_
            have BK585 := n2_
            have BK587 := n3_
            have HB := n4_
            clear n0_ n1_ n2_ n3_ n4_
            (try clear hb)
            (try clear hb2)
            (try clear hk)
            (try clear hi)
            refine hK.out _ _ ⟨(blk_cell BK585.out 0).trans rfl, (blk_cell BK585.out 1).trans rfl, (blk_cell BK587.out 0).trans rfl, (blk_cell BK587.out 1).trans rfl, (blk_cell BK587.out 2).trans rfl⟩ (fun hHeld => ?_)
            clear hK K
            refine norm_ (a' := ?_) ?_ ?_
            rotate_left
            ·show Act.put _ (some 58) _ = _
             simp only [Act.put, List.setIfInBounds_toArray, List.set_cons_zero, List.set_cons_succ, i64_w, i32_w]
             rfl
            refine one_ (i := 6) (N := some 61) #[true, true, true, true, true, true, true, false, false, false] rfl rfl (one_of HT_.out (by kernel_rfl)) (by decide) (fun K hK => ?_)
            refine goes_ Try.func73 (by kernel_rfl) rfl #[.slice (some ad586) l0.length c0, .agg #[.int .i64 (wrap64 (a1_0 - 1)), .int .i64 a1_1, .int .i64 a1_2]] (by rfl) rfl rfl al_ ?_
            with_reducible refine (ih k2 (by have := HK1.out; have := HK2.out; omega) _ _ l0 (wrap64 (a1_0 - 1)) a1_1 a1_2 t590 t591 _ ?side1 ?side2 A45.out).mono ?_
            (case side1 => exact kc_ (Kd.C_below HR0.out HB.out))
            (case side2 => exact HC0.out)
            rintro e w59 ⟨rfl, hb⟩
            refine ⟨_, rfl, ?_⟩
            have n0_ := Aside0.mk (bkb_ BK577.out hb)
            have n1_ := Aside0.mk (bkb_ BK578.out hb)
            have n2_ := Aside0.mk (bkb_ BK585.out hb)
            have n3_ := Aside0.mk (bkb_ BK587.out hb)
            have n4_ := Aside0.mk (below_step (hb_ HB.out) hb)
            clear BK577
            clear BK578
            clear BK585
            clear BK587
            clear HB
            have BK577 := n0_
            have BK578 := n1_
            have BK585 := n2_
            have BK587 := n3_
            have HB := n4_
            clear n0_ n1_ n2_ n3_ n4_
            (try clear hb)
            (try clear hb2)
            (try clear hk)
            (try clear hi)
            refine hK.out _ _ ⟨(blk_cell BK585.out 0).trans rfl, (blk_cell BK585.out 1).trans rfl, (blk_cell BK587.out 0).trans rfl, (blk_cell BK587.out 1).trans rfl, (blk_cell BK587.out 2).trans rfl⟩ (fun hHeld => ?_)
            clear hK K
            refine norm_ (a' := ?_) ?_ ?_
            rotate_left
            ·show Act.put _ (some 61) _ = _
             simp only [Act.put, List.setIfInBounds_toArray, List.set_cons_zero, List.set_cons_succ, i64_w, i32_w]
             rfl
            refine one_ (i := 7) (N := some 62) #[true, true, true, true, true, true, true, true, false, false] rfl rfl (one_of HT_.out (by kernel_rfl)) (by decide) (fun K hK => ?_)
            refine goes_ Try.func61 (by kernel_rfl) rfl #[.agg #[.int .i64 t588, .int .i64 t589], .agg #[.int .i64 t590, .int .i64 t591]] (by rfl) rfl rfl al_ ?_
            with_reducible refine (comfitref04_times.calls k2 t588 t589 t590 t591 t592 t593 _ A46.out).mono ?_
            rintro e w60 ⟨rfl, hb⟩
            refine ⟨_, rfl, ?_⟩
            have n0_ := Aside0.mk (bkb_ BK577.out hb)
            have n1_ := Aside0.mk (bkb_ BK578.out hb)
            have n2_ := Aside0.mk (bkb_ BK585.out hb)
            have n3_ := Aside0.mk (bkb_ BK587.out hb)
            have n4_ := Aside0.mk (below_step (hb_ HB.out) hb)
            clear BK577
            clear BK578
            clear BK585
            clear BK587
            clear HB
            have BK577 := n0_
            have BK578 := n1_
            have BK585 := n2_
            have BK587 := n3_
            have HB := n4_
            clear n0_ n1_ n2_ n3_ n4_
            (try clear hb)
            (try clear hb2)
            (try clear hk)
            (try clear hi)
            refine hK.out _ _ ⟨(blk_cell BK585.out 0).trans rfl, (blk_cell BK585.out 1).trans rfl, (blk_cell BK587.out 0).trans rfl, (blk_cell BK587.out 1).trans rfl, (blk_cell BK587.out 2).trans rfl⟩ (fun hHeld => ?_)
            clear hK K
            refine norm_ (a' := ?_) ?_ ?_
            rotate_left
            ·show Act.put _ (some 62) _ = _
             simp only [Act.put, List.setIfInBounds_toArray, List.set_cons_zero, List.set_cons_succ, i64_w, i32_w]
             rfl
            refine one_ (i := 8) (N := some 63) #[true, true, true, true, true, true, true, true, true, false] rfl rfl (one_of HT_.out (by kernel_rfl)) (by decide) (fun K hK => ?_)
            refine goes_ Try.func58 (by kernel_rfl) rfl #[.agg #[.int .i64 x586000_2, .int .i64 x586001_2], .agg #[.int .i64 t592, .int .i64 t593]] (by rfl) rfl rfl al_ ?_
            with_reducible refine (comfitref04_Plus.calls k2 x586000_2 x586001_2 t592 t593 t594 t595 _ A47.out).mono ?_
            rintro e w61 ⟨rfl, hb⟩
            refine ⟨_, rfl, ?_⟩
            have n0_ := Aside0.mk (bkb_ BK577.out hb)
            have n1_ := Aside0.mk (bkb_ BK578.out hb)
            have n2_ := Aside0.mk (bkb_ BK585.out hb)
            have n3_ := Aside0.mk (bkb_ BK587.out hb)
            have n4_ := Aside0.mk (below_step (hb_ HB.out) hb)
            clear BK577
            clear BK578
            clear BK585
            clear BK587
            clear HB
            have BK577 := n0_
            have BK578 := n1_
            have BK585 := n2_
            have BK587 := n3_
            have HB := n4_
            clear n0_ n1_ n2_ n3_ n4_
            (try clear hb)
            (try clear hb2)
            (try clear hk)
            (try clear hi)
            refine hK.out _ _ ⟨(blk_cell BK585.out 0).trans rfl, (blk_cell BK585.out 1).trans rfl, (blk_cell BK587.out 0).trans rfl, (blk_cell BK587.out 1).trans rfl, (blk_cell BK587.out 2).trans rfl⟩ (fun hHeld => ?_)
            clear hK K
            refine norm_ (a' := ?_) ?_ ?_
            rotate_left
            ·show Act.put _ (some 63) _ = _
             simp only [Act.put, List.setIfInBounds_toArray, List.set_cons_zero, List.set_cons_succ, i64_w, i32_w]
             rfl
            refine last_ (i := 9) (N := none) #[true, true, true, true, true, true, true, true, true, true] rfl rfl (one_of HT_.out (by kernel_rfl)) (by decide) (fun K hK => ?_)
            have hs62 : w61.cell? ⟨gb585, 0, none⟩ = some (.int .i64 x586000_2) := (blk_cell BK585.out 0).trans rfl
            have hfs62 := blk_frozen BK585.out 0
            have hns62_0 := NB577_585.out
            have hns62_1 := NB578_585.out
            have hns62_3 := NB587_585.out
            have hms62_0 := NB585_577.out
            have hms62_1 := NB585_578.out
            have hms62_3 := NB585_587.out
            have hs63 : w61.cell? ⟨gb585, 1, none⟩ = some (.int .i64 x586001_2) := (blk_cell BK585.out 1).trans rfl
            have hfs63 := blk_frozen BK585.out 1
            have hns63_0 := NB577_585.out
            have hns63_1 := NB578_585.out
            have hns63_3 := NB587_585.out
            have hms63_0 := NB585_577.out
            have hms63_1 := NB585_578.out
            have hms63_3 := NB585_587.out
            refine skip_ (w1 := ?_) (by rfl) rfl ?_ ?_
            rotate_left
            ·go_simp
             rfl
            refine hK.out _ _ ?_
            clear hK K
            refine done_ (done_of HT_.out (by kernel_rfl)) ?_
            try go_wp2
            go_roundg k2
            case measure => have := HK1.out; have := HK2.out; omega
            case rel => exact ⟨(1), (t594), (t595), (by first | rfl | (simp; done) | (simp [*]; done)), H', ⟨by have := HK1.out; have := HK2.out; omega⟩, ⟨by (with_reducible repeat (first | refine blk_drewN ?_ _ | refine blk_drew ?_ | refine blk_alloc ?_ _)); refine blk_far ?_ NB577_585.out _; (with_reducible repeat (first | refine blk_drewN ?_ _ | refine blk_drew ?_ | refine blk_alloc ?_ _)); refine blk_far ?_ NB577_585.out _; (with_reducible repeat (first | refine blk_drewN ?_ _ | refine blk_drew ?_ | refine blk_alloc ?_ _)); exact BK577.out⟩, ⟨by (with_reducible repeat (first | refine blk_drewN ?_ _ | refine blk_drew ?_ | refine blk_alloc ?_ _)); refine blk_far ?_ NB578_585.out _; (with_reducible repeat (first | refine blk_drewN ?_ _ | refine blk_drew ?_ | refine blk_alloc ?_ _)); refine blk_far ?_ NB578_585.out _; (with_reducible repeat (first | refine blk_drewN ?_ _ | refine blk_drew ?_ | refine blk_alloc ?_ _)); exact BK578.out⟩, ⟨by (with_reducible repeat (first | refine blk_drewN ?_ _ | refine blk_drew ?_ | refine blk_alloc ?_ _)); refine blk_put (cs := #[.int .i64 t594, .int .i64 x586001_2]) ?_ 1 _ rfl; (with_reducible repeat (first | refine blk_drewN ?_ _ | refine blk_drew ?_ | refine blk_alloc ?_ _)); refine blk_put (cs := #[.int .i64 x586000_2, .int .i64 x586001_2]) ?_ 0 _ rfl; (with_reducible repeat (first | refine blk_drewN ?_ _ | refine blk_drew ?_ | refine blk_alloc ?_ _)); exact BK585.out⟩, ⟨by repeat (first | (with_reducible first | exact HB.out | apply below_alloc | apply pw_below_drewN | apply below_drew1 | refine below_set ?_ GE577.out | refine below_set ?_ GE578.out | refine below_set ?_ GE585.out | refine below_set ?_ GE587.out) | exact HB.out)⟩⟩
           ·rw [if_neg c43] at H
            have c43b0 : decide (0 < a1_0) = false := decide_eq_false c43
            clear c43
            have H' := Aside0.mk H
            clear H
            have p586 : 0 ≤ (0 : Int) := (by omega)
            have q586 : 0 < (l0.length : Int) := of_decide_eq_true (by first | (with_reducible assumption) | assumption)
            obtain ⟨ad586, e586, hx586_0⟩ := Kd.at_int HR0.out 0 p586 q586
            cases e586
            have qi586 : (0 < l0.length) = True := eq_true (by omega)
            (try rw [show ((0 : Int)).toNat = 0 from rfl] at hx586_0)
            (try rw [Addr.add_zero'] at hx586_0)
            replace hx586_0 := (HB.out.cell (World.block_lt_of_cell? w _ hx586_0)).trans hx586_0
            replace p586 := eq_true p586
            replace q586 := eq_true q586
            have hnb64 := NB577_578.out
            have hnc64 := NB578_577.out
            have hnb65 := NB577_585.out
            have hnc65 := NB585_577.out
            have hcz66_0 : wr.cell? ⟨gb577, 0, none⟩ = some (.int .i64 a1_0) := (blk_cell BK577.out 0).trans rfl
            have hcz66_1 : wr.cell? ⟨gb577, 1, none⟩ = some (.int .i64 a1_1) := (blk_cell BK577.out 1).trans rfl
            have hcz66_2 : wr.cell? ⟨gb577, 2, none⟩ = some (.int .i64 a1_2) := (blk_cell BK577.out 2).trans rfl
            have hfz66_0 := blk_frozen BK577.out 0
            have hfz66_1 := blk_frozen BK577.out 1
            have hfz66_2 := blk_frozen BK577.out 2
            go_wp2
            go_roundg k2
            case measure => have := HK1.out; have := HK2.out; omega
            case rel => exact ⟨(1), (x586000_2), (x586001_2), (by first | rfl | (simp; done) | (simp [*]; done)), H', ⟨by have := HK1.out; have := HK2.out; omega⟩, ⟨by (with_reducible repeat (first | refine blk_drewN ?_ _ | refine blk_drew ?_ | refine blk_alloc ?_ _)); exact BK577.out⟩, ⟨by (with_reducible repeat (first | refine blk_drewN ?_ _ | refine blk_drew ?_ | refine blk_alloc ?_ _)); exact BK578.out⟩, ⟨by (with_reducible repeat (first | refine blk_drewN ?_ _ | refine blk_drew ?_ | refine blk_alloc ?_ _)); exact BK585.out⟩, ⟨by repeat (first | (with_reducible first | exact HB.out | apply below_alloc | apply pw_below_drewN | apply below_drew1 | refine below_set ?_ GE577.out | refine below_set ?_ GE578.out | refine below_set ?_ GE585.out) | exact HB.out)⟩⟩
          ·rw [if_neg c42] at H
           have c42b0 : (x40_2 == 0) = false := beq_eq_false_iff_ne.mpr c42
           have c42b1 : (x40_2 != 0) = true := bne_iff_ne.mpr c42
           by_cases c67 : x40_2 = 1
           ·rw [if_pos c67] at H
            subst c67
            by_cases c68 : a1_1 > 0
            ·rw [if_pos c68] at H
             have c68b0 : decide (0 < a1_1) = true := decide_eq_true c68
             clear c68
             replace H := Option.bind_eq_some_iff.mp H
             obtain ⟨⟨t597, t598⟩, A690, H⟩ := H
             replace H : ((comfitref04_pairs.f k2 l0 a1_0 (wrap64 (a1_1 - 1)) a1_2).bind fun bt599 => ((comfitref04_times.f k2 t597 t598 bt599.1 bt599.2).bind fun bt601 => ((comfitref04_Plus.f k2 x586000_2 x586001_2 bt601.1 bt601.2).bind fun bt603 => (comfitref04_pairs.l1 k2 l0 x5_1 l0 (l0.length : Int) 2 a1_0 a1_1 a1_2 bt603.1 bt603.2)))) = some (r1, r2) := H
             have A69 := Aside0.mk A690
             clear A690
             replace H := Option.bind_eq_some_iff.mp H
             obtain ⟨⟨t599, t600⟩, A700, H⟩ := H
             replace H : ((comfitref04_times.f k2 t597 t598 t599 t600).bind fun bt601 => ((comfitref04_Plus.f k2 x586000_2 x586001_2 bt601.1 bt601.2).bind fun bt603 => (comfitref04_pairs.l1 k2 l0 x5_1 l0 (l0.length : Int) 2 a1_0 a1_1 a1_2 bt603.1 bt603.2))) = some (r1, r2) := H
             have A70 := Aside0.mk A700
             clear A700
             replace H := Option.bind_eq_some_iff.mp H
             obtain ⟨⟨t601, t602⟩, A710, H⟩ := H
             replace H : ((comfitref04_Plus.f k2 x586000_2 x586001_2 t601 t602).bind fun bt603 => (comfitref04_pairs.l1 k2 l0 x5_1 l0 (l0.length : Int) 2 a1_0 a1_1 a1_2 bt603.1 bt603.2)) = some (r1, r2) := H
             have A71 := Aside0.mk A710
             clear A710
             replace H := Option.bind_eq_some_iff.mp H
             obtain ⟨⟨t603, t604⟩, A720, H⟩ := H
             replace H : (comfitref04_pairs.l1 k2 l0 x5_1 l0 (l0.length : Int) 2 a1_0 a1_1 a1_2 t603 t604) = some (r1, r2) := H
             have A72 := Aside0.mk A720
             clear A720
             have H' := Aside0.mk H
             clear H
             have p586 : 0 ≤ (1 : Int) := (by omega)
             have q586 : 1 < (l0.length : Int) := of_decide_eq_true (by first | (with_reducible assumption) | assumption)
             obtain ⟨ad586, e586, hx586_0⟩ := Kd.at_int HR0.out 1 p586 q586
             cases e586
             (try simp only [show (1 : Int).toNat = 1 from rfl, Nat.reduceMul, Nat.reduceEqDiff, Go.Addr.add, ↓reduceIte] at hx586_0)
             have qi586 : (1 < l0.length) = True := eq_true (by omega)
             (try rw [show ((1 : Int)).toNat = 1 from rfl] at hx586_0)
             replace hx586_0 := (HB.out.cell (World.block_lt_of_cell? w _ hx586_0)).trans hx586_0
             replace p586 := eq_true p586
             replace q586 := eq_true q586
             have hnb73 := NB577_578.out
             have hnc73 := NB578_577.out
             have hnb74 := NB577_585.out
             have hnc74 := NB585_577.out
             have hcz75_0 : wr.cell? ⟨gb577, 0, none⟩ = some (.int .i64 a1_0) := (blk_cell BK577.out 0).trans rfl
             have hcz75_1 : wr.cell? ⟨gb577, 1, none⟩ = some (.int .i64 a1_1) := (blk_cell BK577.out 1).trans rfl
             have hcz75_2 : wr.cell? ⟨gb577, 2, none⟩ = some (.int .i64 a1_2) := (blk_cell BK577.out 2).trans rfl
             have hfz75_0 := blk_frozen BK577.out 0
             have hfz75_1 := blk_frozen BK577.out 1
             have hfz75_2 := blk_frozen BK577.out 2
             try go_wp2_with (first | ((with_reducible refine gate_dst (N := 11) rfl ?_); refine box_event ?hg (N := 11) ?hd (cs := #[.int .i64 0, .int .i64 0, .int .i64 0]) (t := 67) ?hr ?_; (case hd => rfl); (case hg => rfl); (case hr => first | (go_simp; done) | (go_simp; rfl)); intro gb596 hg w76 hbox hb; have n0_ := Aside0.mk (bkb_ BK577.out hb); have n1_ := Aside0.mk (bkb_ BK578.out hb); have n2_ := Aside0.mk (bkb_ BK585.out hb); have n3_ := Aside0.mk (below_step (hb_ HB.out) hb); have n4_ := Aside0.mk (hbox); have n5_ := Aside0.mk ((by rw [hg]; exact (below_size (hb_ HB.out)) : w.heap.size ≤ gb596)); have n6_ := Aside0.mk ((by rw [hg]; exact (below_size (hb_ HB.out)) : w.heap.size ≤ gb596)); have n7_ := Aside0.mk ((by rw [hg]; exact Nat.ne_of_lt (bkl_ BK577.out) : gb577 ≠ gb596)); have n8_ := Aside0.mk ((by rw [hg]; exact Nat.ne_of_gt (bkl_ BK577.out) : gb596 ≠ gb577)); have n9_ := Aside0.mk ((by rw [hg]; exact Nat.ne_of_lt (bkl_ BK578.out) : gb578 ≠ gb596)); have n10_ := Aside0.mk ((by rw [hg]; exact Nat.ne_of_gt (bkl_ BK578.out) : gb596 ≠ gb578)); have n11_ := Aside0.mk ((by rw [hg]; exact Nat.ne_of_lt (bkl_ BK585.out) : gb585 ≠ gb596)); have n12_ := Aside0.mk ((by rw [hg]; exact Nat.ne_of_gt (bkl_ BK585.out) : gb596 ≠ gb585)); clear BK577; clear BK578; clear BK585; clear HB; have BK577 := n0_; have BK578 := n1_; have BK585 := n2_; have HB := n3_; have BK596 := n4_; have GW596 := n5_; have GE596 := n6_; have NB577_596 := n7_; have NB596_577 := n8_; have NB578_596 := n9_; have NB596_578 := n10_; have NB585_596 := n11_; have NB596_585 := n12_; clear n0_ n1_ n2_ n3_ n4_ n5_ n6_ n7_ n8_ n9_ n10_ n11_ n12_; clear hb hbox hg; have hnb77 := NB596_577.out; have hnc77 := NB577_596.out; have hnb78 := NB596_578.out; have hnc78 := NB578_596.out; have hnb79 := NB596_585.out; have hnc79 := NB585_596.out; have hcz80_0 : w76.cell? ⟨gb596, 0, none⟩ = some (.int .i64 0) := (blk_cell BK596.out 0).trans rfl; have hcz80_1 : w76.cell? ⟨gb596, 1, none⟩ = some (.int .i64 0) := (blk_cell BK596.out 1).trans rfl; have hcz80_2 : w76.cell? ⟨gb596, 2, none⟩ = some (.int .i64 0) := (blk_cell BK596.out 2).trans rfl; have hfz80_0 := blk_frozen BK596.out 0; have hfz80_1 := blk_frozen BK596.out 1; have hfz80_2 := blk_frozen BK596.out 2))
             have n0_ : Aside0 (((((w76.setCell ⟨gb596, 0, none⟩ (.int .i64 a1_0)).setCell ⟨gb596, 1, none⟩ (.int .i64 a1_1)).setCell ⟨gb596, 2, none⟩ (.int .i64 a1_2)).setCell ⟨gb596, 1, none⟩ (.int .i64 (wrap64 (a1_1 - 1)))).heap[gb577]? = some (.cells #[.int .i64 a1_0, .int .i64 a1_1, .int .i64 a1_2] 67 (0, 0))) := ⟨by (with_reducible repeat (first | refine blk_drewN ?_ _ | refine blk_drew ?_ | refine blk_alloc ?_ _)); refine blk_far ?_ NB577_596.out _; (with_reducible repeat (first | refine blk_drewN ?_ _ | refine blk_drew ?_ | refine blk_alloc ?_ _)); refine blk_far ?_ NB577_596.out _; (with_reducible repeat (first | refine blk_drewN ?_ _ | refine blk_drew ?_ | refine blk_alloc ?_ _)); refine blk_far ?_ NB577_596.out _; (with_reducible repeat (first | refine blk_drewN ?_ _ | refine blk_drew ?_ | refine blk_alloc ?_ _)); refine blk_far ?_ NB577_596.out _; (with_reducible repeat (first | refine blk_drewN ?_ _ | refine blk_drew ?_ | refine blk_alloc ?_ _)); exact BK577.out⟩
             have n1_ : Aside0 (((((w76.setCell ⟨gb596, 0, none⟩ (.int .i64 a1_0)).setCell ⟨gb596, 1, none⟩ (.int .i64 a1_1)).setCell ⟨gb596, 2, none⟩ (.int .i64 a1_2)).setCell ⟨gb596, 1, none⟩ (.int .i64 (wrap64 (a1_1 - 1)))).heap[gb578]? = some (.cells #[.int .i64 0, .int .i64 0] 25 (0, 0))) := ⟨by (with_reducible repeat (first | refine blk_drewN ?_ _ | refine blk_drew ?_ | refine blk_alloc ?_ _)); refine blk_far ?_ NB578_596.out _; (with_reducible repeat (first | refine blk_drewN ?_ _ | refine blk_drew ?_ | refine blk_alloc ?_ _)); refine blk_far ?_ NB578_596.out _; (with_reducible repeat (first | refine blk_drewN ?_ _ | refine blk_drew ?_ | refine blk_alloc ?_ _)); refine blk_far ?_ NB578_596.out _; (with_reducible repeat (first | refine blk_drewN ?_ _ | refine blk_drew ?_ | refine blk_alloc ?_ _)); refine blk_far ?_ NB578_596.out _; (with_reducible repeat (first | refine blk_drewN ?_ _ | refine blk_drew ?_ | refine blk_alloc ?_ _)); exact BK578.out⟩
             have n2_ : Aside0 (((((w76.setCell ⟨gb596, 0, none⟩ (.int .i64 a1_0)).setCell ⟨gb596, 1, none⟩ (.int .i64 a1_1)).setCell ⟨gb596, 2, none⟩ (.int .i64 a1_2)).setCell ⟨gb596, 1, none⟩ (.int .i64 (wrap64 (a1_1 - 1)))).heap[gb585]? = some (.cells #[.int .i64 x586000_2, .int .i64 x586001_2] 25 (0, 0))) := ⟨by (with_reducible repeat (first | refine blk_drewN ?_ _ | refine blk_drew ?_ | refine blk_alloc ?_ _)); refine blk_far ?_ NB585_596.out _; (with_reducible repeat (first | refine blk_drewN ?_ _ | refine blk_drew ?_ | refine blk_alloc ?_ _)); refine blk_far ?_ NB585_596.out _; (with_reducible repeat (first | refine blk_drewN ?_ _ | refine blk_drew ?_ | refine blk_alloc ?_ _)); refine blk_far ?_ NB585_596.out _; (with_reducible repeat (first | refine blk_drewN ?_ _ | refine blk_drew ?_ | refine blk_alloc ?_ _)); refine blk_far ?_ NB585_596.out _; (with_reducible repeat (first | refine blk_drewN ?_ _ | refine blk_drew ?_ | refine blk_alloc ?_ _)); exact BK585.out⟩
             have n3_ : Aside0 (((((w76.setCell ⟨gb596, 0, none⟩ (.int .i64 a1_0)).setCell ⟨gb596, 1, none⟩ (.int .i64 a1_1)).setCell ⟨gb596, 2, none⟩ (.int .i64 a1_2)).setCell ⟨gb596, 1, none⟩ (.int .i64 (wrap64 (a1_1 - 1)))).heap[gb596]? = some (.cells #[.int .i64 a1_0, .int .i64 (wrap64 (a1_1 - 1)), .int .i64 a1_2] 67 (0, 0))) := ⟨by (with_reducible repeat (first | refine blk_drewN ?_ _ | refine blk_drew ?_ | refine blk_alloc ?_ _)); refine blk_put (cs := #[.int .i64 a1_0, .int .i64 a1_1, .int .i64 a1_2]) ?_ 1 _ rfl; (with_reducible repeat (first | refine blk_drewN ?_ _ | refine blk_drew ?_ | refine blk_alloc ?_ _)); refine blk_put (cs := #[.int .i64 a1_0, .int .i64 a1_1, .int .i64 0]) ?_ 2 _ rfl; (with_reducible repeat (first | refine blk_drewN ?_ _ | refine blk_drew ?_ | refine blk_alloc ?_ _)); refine blk_put (cs := #[.int .i64 a1_0, .int .i64 0, .int .i64 0]) ?_ 1 _ rfl; (with_reducible repeat (first | refine blk_drewN ?_ _ | refine blk_drew ?_ | refine blk_alloc ?_ _)); refine blk_put (cs := #[.int .i64 0, .int .i64 0, .int .i64 0]) ?_ 0 _ rfl; (with_reducible repeat (first | refine blk_drewN ?_ _ | refine blk_drew ?_ | refine blk_alloc ?_ _)); exact BK596.out⟩
             have n4_ : Aside0 (Below w.heap.size w ((((w76.setCell ⟨gb596, 0, none⟩ (.int .i64 a1_0)).setCell ⟨gb596, 1, none⟩ (.int .i64 a1_1)).setCell ⟨gb596, 2, none⟩ (.int .i64 a1_2)).setCell ⟨gb596, 1, none⟩ (.int .i64 (wrap64 (a1_1 - 1))))) := ⟨by repeat (first | (with_reducible first | exact HB.out | apply below_alloc | apply pw_below_drewN | apply below_drew1 | refine below_set ?_ GE577.out | refine below_set ?_ GE578.out | refine below_set ?_ GE585.out | refine below_set ?_ GE596.out) | exact HB.out)⟩
             (try clear BK577)
             (try clear BK578)
             (try clear BK585)
             (try clear BK596)
             (try clear HB)
             generalize ((((w76.setCell ⟨gb596, 0, none⟩ (.int .i64 a1_0)).setCell ⟨gb596, 1, none⟩ (.int .i64 a1_1)).setCell ⟨gb596, 2, none⟩ (.int .i64 a1_2)).setCell ⟨gb596, 1, none⟩ (.int .i64 (wrap64 (a1_1 - 1)))) = w81 at n0_ n1_ n2_ n3_ n4_ ⊢
             have BK577 := n0_
             have BK578 := n1_
             have BK585 := n2_
             have BK596 := n3_
             have HB := n4_
             clear n0_ n1_ n2_ n3_ n4_
             have n0_ := Aside0.mk (blk_drew BK577.out)
             have n1_ := Aside0.mk (blk_drew BK578.out)
             have n2_ := Aside0.mk (blk_drew BK585.out)
             have n3_ := Aside0.mk (blk_drew BK596.out)
             have n4_ := Aside0.mk (below_drew1 HB.out)
             clear BK577
             clear BK578
             clear BK585
             clear BK596
             clear HB
             have BK577 := n0_
             have BK578 := n1_
             have BK585 := n2_
             have BK596 := n3_
             have HB := n4_
             clear n0_ n1_ n2_ n3_ n4_
             refine start_ (n := 10) (S := fun w' => w'.cell? ⟨gb585, 0, none⟩ = some (.int .i64 x586000_2) ∧ w'.cell? ⟨gb585, 1, none⟩ = some (.int .i64 x586001_2) ∧ w'.cell? ⟨gb596, 0, none⟩ = some (.int .i64 a1_0) ∧ w'.cell? ⟨gb596, 1, none⟩ = some (.int .i64 (wrap64 (a1_1 - 1))) ∧ w'.cell? ⟨gb596, 2, none⟩ = some (.int .i64 a1_2)) (ds := [9]) #[false, false, false, false, false, false, false, false, false, false] (by kernel_rfl) rfl rfl ⟨(blk_cell BK585.out 0).trans rfl, (blk_cell BK585.out 1).trans rfl, (blk_cell BK596.out 0).trans rfl, (blk_cell BK596.out 1).trans rfl, (blk_cell BK596.out 2).trans rfl⟩ (fun hHeld => ?_); refine with_tabW comfitref04_pairs.tab17 comfitref04_pairs.bits17 (fun HT_ HW_ => ?_)
             generalize w81.drew = w82 at BK577 BK578 BK585 BK596 HB hHeld ⊢
             refine pure_ (i := 1) (N := some 56) (v := ?_) (a' := ?_) #[false, true, false, false, false, false, false, false, false, false] rfl rfl (any_of HT_.out (by kernel_rfl)) (fun _ _ _ h => h) (Or.inl ⟨by rfl, ?_⟩) ?_ ?_
             rotate_left
             ·intro w'
              go_simp
              with_reducible rfl
             rotate_left
             ·simp only [Act.put, List.setIfInBounds_toArray, List.set_cons_zero, List.set_cons_succ, i64_w, i32_w]
              rfl
             refine pure_ (i := 2) (N := some 57) (v := ?_) (a' := ?_) #[false, true, true, false, false, false, false, false, false, false] rfl rfl (any_of HT_.out (by kernel_rfl)) (fun _ _ _ h => h) (Or.inl ⟨by rfl, ?_⟩) ?_ ?_
             rotate_left
             ·intro w'
              go_simp
              with_reducible rfl
             rotate_left
             ·simp only [Act.put, List.setIfInBounds_toArray, List.set_cons_zero, List.set_cons_succ, i64_w, i32_w]
              rfl
             refine pure_ (i := 4) (N := some 59) (v := ?_) (a' := ?_) #[false, true, true, false, true, false, false, false, false, false] rfl rfl (any_of HT_.out (by kernel_rfl)) (fun _ _ _ h => h) (Or.inl ⟨by rfl, ?_⟩) ?_ ?_
             rotate_left
             ·intro w'
              go_simp
              with_reducible rfl
             rotate_left
             ·simp only [Act.put, List.setIfInBounds_toArray, List.set_cons_zero, List.set_cons_succ, i64_w, i32_w]
              rfl
             refine take_ (i := 0) (N := some 55) (v := ?_) (a' := ?_) #[true, true, true, false, true, false, false, false, false, false] rfl rfl (take_ofW HT_.out HW_.out (by kernel_rfl)) (fun _ _ _ h => h) (Or.inl ⟨by rfl, ?_⟩) hHeld ?_ ?_
             rotate_left
             ·rintro w' ⟨s0, s1, s2, s3, s4⟩
              go_simp
              with_reducible rfl
             rotate_left
             ·simp only [Act.put, List.setIfInBounds_toArray, List.set_cons_zero, List.set_cons_succ, i64_w, i32_w]
              rfl
             refine take_ (i := 5) (N := some 60) (v := ?_) (a' := ?_) #[true, true, true, false, true, true, false, false, false, false] rfl rfl (take_ofW HT_.out HW_.out (by kernel_rfl)) (fun _ _ _ h => h) (Or.inl ⟨by rfl, ?_⟩) hHeld ?_ ?_
             rotate_left
             ·rintro w' ⟨s0, s1, s2, s3, s4⟩
              go_simp
              with_reducible rfl
             rotate_left
             ·simp only [Act.put, List.setIfInBounds_toArray, List.set_cons_zero, List.set_cons_succ, i64_w, i32_w]
              rfl
             refine one_ (i := 3) (N := some 58) #[true, true, true, true, true, true, false, false, false, false] rfl rfl (one_of HT_.out (by kernel_rfl)) (by decide) (fun K hK => ?_)
             refine goes_ Try.func60 (by kernel_rfl) rfl #[.int .i64 (rd l0 1), .int .i64 x5_1] (by rfl) rfl rfl al_ ?_
             with_reducible refine (comfitref04_frac.calls k2 (rd l0 1) x5_1 t597 t598 _ A69.out).mono ?_
             rintro e w83 ⟨rfl, hb⟩
             refine ⟨_, rfl, ?_⟩
             have n0_ := Aside0.mk (bkb_ BK577.out hb)
             have n1_ := Aside0.mk (bkb_ BK578.out hb)
             have n2_ := Aside0.mk (bkb_ BK585.out hb)
             have n3_ := Aside0.mk (bkb_ BK596.out hb)
             have n4_ := Aside0.mk (below_step (hb_ HB.out) hb)
             clear BK577
             clear BK578
             clear BK585
             clear BK596
             clear HB
             have BK577 := n0_
             have BK578 := n1_
             have BK585 := n2_
             have BK596 := n3_
             have HB := n4_
             clear n0_ n1_ n2_ n3_ n4_
             (try clear hb)
             (try clear hb2)
             (try clear hk)
             (try clear hi)
             refine hK.out _ _ ⟨(blk_cell BK585.out 0).trans rfl, (blk_cell BK585.out 1).trans rfl, (blk_cell BK596.out 0).trans rfl, (blk_cell BK596.out 1).trans rfl, (blk_cell BK596.out 2).trans rfl⟩ (fun hHeld => ?_)
             clear hK K
             refine norm_ (a' := ?_) ?_ ?_
             rotate_left
             ·show Act.put _ (some 58) _ = _
              simp only [Act.put, List.setIfInBounds_toArray, List.set_cons_zero, List.set_cons_succ, i64_w, i32_w]
              rfl
             refine one_ (i := 6) (N := some 61) #[true, true, true, true, true, true, true, false, false, false] rfl rfl (one_of HT_.out (by kernel_rfl)) (by decide) (fun K hK => ?_)
             refine goes_ Try.func73 (by kernel_rfl) rfl #[.slice (some ad586) l0.length c0, .agg #[.int .i64 a1_0, .int .i64 (wrap64 (a1_1 - 1)), .int .i64 a1_2]] (by rfl) rfl rfl al_ ?_
             with_reducible refine (ih k2 (by have := HK1.out; have := HK2.out; omega) _ _ l0 a1_0 (wrap64 (a1_1 - 1)) a1_2 t599 t600 _ ?side1 ?side2 A70.out).mono ?_
             (case side1 => exact kc_ (Kd.C_below HR0.out HB.out))
             (case side2 => exact HC0.out)
             rintro e w84 ⟨rfl, hb⟩
             refine ⟨_, rfl, ?_⟩
             have n0_ := Aside0.mk (bkb_ BK577.out hb)
             have n1_ := Aside0.mk (bkb_ BK578.out hb)
             have n2_ := Aside0.mk (bkb_ BK585.out hb)
             have n3_ := Aside0.mk (bkb_ BK596.out hb)
             have n4_ := Aside0.mk (below_step (hb_ HB.out) hb)
             clear BK577
             clear BK578
             clear BK585
             clear BK596
             clear HB
             have BK577 := n0_
             have BK578 := n1_
             have BK585 := n2_
             have BK596 := n3_
             have HB := n4_
             clear n0_ n1_ n2_ n3_ n4_
             (try clear hb)
             (try clear hb2)
             (try clear hk)
             (try clear hi)
             refine hK.out _ _ ⟨(blk_cell BK585.out 0).trans rfl, (blk_cell BK585.out 1).trans rfl, (blk_cell BK596.out 0).trans rfl, (blk_cell BK596.out 1).trans rfl, (blk_cell BK596.out 2).trans rfl⟩ (fun hHeld => ?_)
             clear hK K
             refine norm_ (a' := ?_) ?_ ?_
             rotate_left
             ·show Act.put _ (some 61) _ = _
              simp only [Act.put, List.setIfInBounds_toArray, List.set_cons_zero, List.set_cons_succ, i64_w, i32_w]
              rfl
             refine one_ (i := 7) (N := some 62) #[true, true, true, true, true, true, true, true, false, false] rfl rfl (one_of HT_.out (by kernel_rfl)) (by decide) (fun K hK => ?_)
             refine goes_ Try.func61 (by kernel_rfl) rfl #[.agg #[.int .i64 t597, .int .i64 t598], .agg #[.int .i64 t599, .int .i64 t600]] (by rfl) rfl rfl al_ ?_
             with_reducible refine (comfitref04_times.calls k2 t597 t598 t599 t600 t601 t602 _ A71.out).mono ?_
             rintro e w85 ⟨rfl, hb⟩
             refine ⟨_, rfl, ?_⟩
             have n0_ := Aside0.mk (bkb_ BK577.out hb)
             have n1_ := Aside0.mk (bkb_ BK578.out hb)
             have n2_ := Aside0.mk (bkb_ BK585.out hb)
             have n3_ := Aside0.mk (bkb_ BK596.out hb)
             have n4_ := Aside0.mk (below_step (hb_ HB.out) hb)
             clear BK577
             clear BK578
             clear BK585
             clear BK596
             clear HB
             have BK577 := n0_
             have BK578 := n1_
             have BK585 := n2_
             have BK596 := n3_
             have HB := n4_
             clear n0_ n1_ n2_ n3_ n4_
             (try clear hb)
             (try clear hb2)
             (try clear hk)
             (try clear hi)
             refine hK.out _ _ ⟨(blk_cell BK585.out 0).trans rfl, (blk_cell BK585.out 1).trans rfl, (blk_cell BK596.out 0).trans rfl, (blk_cell BK596.out 1).trans rfl, (blk_cell BK596.out 2).trans rfl⟩ (fun hHeld => ?_)
             clear hK K
             refine norm_ (a' := ?_) ?_ ?_
             rotate_left
             ·show Act.put _ (some 62) _ = _
              simp only [Act.put, List.setIfInBounds_toArray, List.set_cons_zero, List.set_cons_succ, i64_w, i32_w]
              rfl
             refine one_ (i := 8) (N := some 63) #[true, true, true, true, true, true, true, true, true, false] rfl rfl (one_of HT_.out (by kernel_rfl)) (by decide) (fun K hK => ?_)
             refine goes_ Try.func58 (by kernel_rfl) rfl #[.agg #[.int .i64 x586000_2, .int .i64 x586001_2], .agg #[.int .i64 t601, .int .i64 t602]] (by rfl) rfl rfl al_ ?_
             with_reducible refine (comfitref04_Plus.calls k2 x586000_2 x586001_2 t601 t602 t603 t604 _ A72.out).mono ?_
             rintro e w86 ⟨rfl, hb⟩
             refine ⟨_, rfl, ?_⟩
             have n0_ := Aside0.mk (bkb_ BK577.out hb)
             have n1_ := Aside0.mk (bkb_ BK578.out hb)
             have n2_ := Aside0.mk (bkb_ BK585.out hb)
             have n3_ := Aside0.mk (bkb_ BK596.out hb)
             have n4_ := Aside0.mk (below_step (hb_ HB.out) hb)
             clear BK577
             clear BK578
             clear BK585
             clear BK596
             clear HB
             have BK577 := n0_
             have BK578 := n1_
             have BK585 := n2_
             have BK596 := n3_
             have HB := n4_
             clear n0_ n1_ n2_ n3_ n4_
             (try clear hb)
             (try clear hb2)
             (try clear hk)
             (try clear hi)
             refine hK.out _ _ ⟨(blk_cell BK585.out 0).trans rfl, (blk_cell BK585.out 1).trans rfl, (blk_cell BK596.out 0).trans rfl, (blk_cell BK596.out 1).trans rfl, (blk_cell BK596.out 2).trans rfl⟩ (fun hHeld => ?_)
             clear hK K
             refine norm_ (a' := ?_) ?_ ?_
             rotate_left
             ·show Act.put _ (some 63) _ = _
              simp only [Act.put, List.setIfInBounds_toArray, List.set_cons_zero, List.set_cons_succ, i64_w, i32_w]
              rfl
             refine last_ (i := 9) (N := none) #[true, true, true, true, true, true, true, true, true, true] rfl rfl (one_of HT_.out (by kernel_rfl)) (by decide) (fun K hK => ?_)
             have hs87 : w86.cell? ⟨gb585, 0, none⟩ = some (.int .i64 x586000_2) := (blk_cell BK585.out 0).trans rfl
             have hfs87 := blk_frozen BK585.out 0
             have hns87_0 := NB577_585.out
             have hns87_1 := NB578_585.out
             have hns87_3 := NB596_585.out
             have hms87_0 := NB585_577.out
             have hms87_1 := NB585_578.out
             have hms87_3 := NB585_596.out
             have hs88 : w86.cell? ⟨gb585, 1, none⟩ = some (.int .i64 x586001_2) := (blk_cell BK585.out 1).trans rfl
             have hfs88 := blk_frozen BK585.out 1
             have hns88_0 := NB577_585.out
             have hns88_1 := NB578_585.out
             have hns88_3 := NB596_585.out
             have hms88_0 := NB585_577.out
             have hms88_1 := NB585_578.out
             have hms88_3 := NB585_596.out
             refine skip_ (w1 := ?_) (by rfl) rfl ?_ ?_
             rotate_left
             ·go_simp
              rfl
             refine hK.out _ _ ?_
             clear hK K
             refine done_ (done_of HT_.out (by kernel_rfl)) ?_
             try go_wp2
             go_roundg k2
             case measure => have := HK1.out; have := HK2.out; omega
             case rel => exact ⟨(2), (t603), (t604), (by first | rfl | (simp; done) | (simp [*]; done)), H', ⟨by have := HK1.out; have := HK2.out; omega⟩, ⟨by (with_reducible repeat (first | refine blk_drewN ?_ _ | refine blk_drew ?_ | refine blk_alloc ?_ _)); refine blk_far ?_ NB577_585.out _; (with_reducible repeat (first | refine blk_drewN ?_ _ | refine blk_drew ?_ | refine blk_alloc ?_ _)); refine blk_far ?_ NB577_585.out _; (with_reducible repeat (first | refine blk_drewN ?_ _ | refine blk_drew ?_ | refine blk_alloc ?_ _)); exact BK577.out⟩, ⟨by (with_reducible repeat (first | refine blk_drewN ?_ _ | refine blk_drew ?_ | refine blk_alloc ?_ _)); refine blk_far ?_ NB578_585.out _; (with_reducible repeat (first | refine blk_drewN ?_ _ | refine blk_drew ?_ | refine blk_alloc ?_ _)); refine blk_far ?_ NB578_585.out _; (with_reducible repeat (first | refine blk_drewN ?_ _ | refine blk_drew ?_ | refine blk_alloc ?_ _)); exact BK578.out⟩, ⟨by (with_reducible repeat (first | refine blk_drewN ?_ _ | refine blk_drew ?_ | refine blk_alloc ?_ _)); refine blk_put (cs := #[.int .i64 t603, .int .i64 x586001_2]) ?_ 1 _ rfl; (with_reducible repeat (first | refine blk_drewN ?_ _ | refine blk_drew ?_ | refine blk_alloc ?_ _)); refine blk_put (cs := #[.int .i64 x586000_2, .int .i64 x586001_2]) ?_ 0 _ rfl; (with_reducible repeat (first | refine blk_drewN ?_ _ | refine blk_drew ?_ | refine blk_alloc ?_ _)); exact BK585.out⟩, ⟨by repeat (first | (with_reducible first | exact HB.out | apply below_alloc | apply pw_below_drewN | apply below_drew1 | refine below_set ?_ GE577.out | refine below_set ?_ GE578.out | refine below_set ?_ GE585.out | refine below_set ?_ GE596.out) | exact HB.out)⟩⟩
            ·rw [if_neg c68] at H
             have c68b0 : decide (0 < a1_1) = false := decide_eq_false c68
             clear c68
             have H' := Aside0.mk H
             clear H
             have p586 : 0 ≤ (1 : Int) := (by omega)
             have q586 : 1 < (l0.length : Int) := of_decide_eq_true (by first | (with_reducible assumption) | assumption)
             obtain ⟨ad586, e586, hx586_0⟩ := Kd.at_int HR0.out 1 p586 q586
             cases e586
             (try simp only [show (1 : Int).toNat = 1 from rfl, Nat.reduceMul, Nat.reduceEqDiff, Go.Addr.add, ↓reduceIte] at hx586_0)
             have qi586 : (1 < l0.length) = True := eq_true (by omega)
             (try rw [show ((1 : Int)).toNat = 1 from rfl] at hx586_0)
             replace hx586_0 := (HB.out.cell (World.block_lt_of_cell? w _ hx586_0)).trans hx586_0
             replace p586 := eq_true p586
             replace q586 := eq_true q586
             have hnb89 := NB577_578.out
             have hnc89 := NB578_577.out
             have hnb90 := NB577_585.out
             have hnc90 := NB585_577.out
             have hcz91_0 : wr.cell? ⟨gb577, 0, none⟩ = some (.int .i64 a1_0) := (blk_cell BK577.out 0).trans rfl
             have hcz91_1 : wr.cell? ⟨gb577, 1, none⟩ = some (.int .i64 a1_1) := (blk_cell BK577.out 1).trans rfl
             have hcz91_2 : wr.cell? ⟨gb577, 2, none⟩ = some (.int .i64 a1_2) := (blk_cell BK577.out 2).trans rfl
             have hfz91_0 := blk_frozen BK577.out 0
             have hfz91_1 := blk_frozen BK577.out 1
             have hfz91_2 := blk_frozen BK577.out 2
             go_wp2
             go_roundg k2
             case measure => have := HK1.out; have := HK2.out; omega
             case rel => exact ⟨(2), (x586000_2), (x586001_2), (by first | rfl | (simp; done) | (simp [*]; done)), H', ⟨by have := HK1.out; have := HK2.out; omega⟩, ⟨by (with_reducible repeat (first | refine blk_drewN ?_ _ | refine blk_drew ?_ | refine blk_alloc ?_ _)); exact BK577.out⟩, ⟨by (with_reducible repeat (first | refine blk_drewN ?_ _ | refine blk_drew ?_ | refine blk_alloc ?_ _)); exact BK578.out⟩, ⟨by (with_reducible repeat (first | refine blk_drewN ?_ _ | refine blk_drew ?_ | refine blk_alloc ?_ _)); exact BK585.out⟩, ⟨by repeat (first | (with_reducible first | exact HB.out | apply below_alloc | apply pw_below_drewN | apply below_drew1 | refine below_set ?_ GE577.out | refine below_set ?_ GE578.out | refine below_set ?_ GE585.out) | exact HB.out)⟩⟩
           ·rw [if_neg c67] at H
            have c67b0 : (x40_2 == 1) = false := beq_eq_false_iff_ne.mpr c67
            have c67b1 : (x40_2 != 1) = true := bne_iff_ne.mpr c67
            by_cases c92 : x40_2 = 2
            ·rw [if_pos c92] at H
             subst c92
             by_cases c93 : a1_2 > 0
             ·rw [if_pos c93] at H
              have c93b0 : decide (0 < a1_2) = true := decide_eq_true c93
              clear c93
              replace H := Option.bind_eq_some_iff.mp H
              obtain ⟨⟨t606, t607⟩, A940, H⟩ := H
              replace H : ((comfitref04_pairs.f k2 l0 a1_0 a1_1 (wrap64 (a1_2 - 1))).bind fun bt608 => ((comfitref04_times.f k2 t606 t607 bt608.1 bt608.2).bind fun bt610 => ((comfitref04_Plus.f k2 x586000_2 x586001_2 bt610.1 bt610.2).bind fun bt612 => (comfitref04_pairs.l1 k2 l0 x5_1 l0 (l0.length : Int) 3 a1_0 a1_1 a1_2 bt612.1 bt612.2)))) = some (r1, r2) := H
              have A94 := Aside0.mk A940
              clear A940
              replace H := Option.bind_eq_some_iff.mp H
              obtain ⟨⟨t608, t609⟩, A950, H⟩ := H
              replace H : ((comfitref04_times.f k2 t606 t607 t608 t609).bind fun bt610 => ((comfitref04_Plus.f k2 x586000_2 x586001_2 bt610.1 bt610.2).bind fun bt612 => (comfitref04_pairs.l1 k2 l0 x5_1 l0 (l0.length : Int) 3 a1_0 a1_1 a1_2 bt612.1 bt612.2))) = some (r1, r2) := H
              have A95 := Aside0.mk A950
              clear A950
              replace H := Option.bind_eq_some_iff.mp H
              obtain ⟨⟨t610, t611⟩, A960, H⟩ := H
              replace H : ((comfitref04_Plus.f k2 x586000_2 x586001_2 t610 t611).bind fun bt612 => (comfitref04_pairs.l1 k2 l0 x5_1 l0 (l0.length : Int) 3 a1_0 a1_1 a1_2 bt612.1 bt612.2)) = some (r1, r2) := H
              have A96 := Aside0.mk A960
              clear A960
              replace H := Option.bind_eq_some_iff.mp H
              obtain ⟨⟨t612, t613⟩, A970, H⟩ := H
              replace H : (comfitref04_pairs.l1 k2 l0 x5_1 l0 (l0.length : Int) 3 a1_0 a1_1 a1_2 t612 t613) = some (r1, r2) := H
              have A97 := Aside0.mk A970
              clear A970
              have H' := Aside0.mk H
              clear H
              have p586 : 0 ≤ (2 : Int) := (by omega)
              have q586 : 2 < (l0.length : Int) := of_decide_eq_true (by first | (with_reducible assumption) | assumption)
              obtain ⟨ad586, e586, hx586_0⟩ := Kd.at_int HR0.out 2 p586 q586
              cases e586
              (try simp only [show (2 : Int).toNat = 2 from rfl, Nat.reduceMul, Nat.reduceEqDiff, Go.Addr.add, ↓reduceIte] at hx586_0)
              have qi586 : (2 < l0.length) = True := eq_true (by omega)
              (try rw [show ((2 : Int)).toNat = 2 from rfl] at hx586_0)
              replace hx586_0 := (HB.out.cell (World.block_lt_of_cell? w _ hx586_0)).trans hx586_0
              replace p586 := eq_true p586
              replace q586 := eq_true q586
              have hnb98 := NB577_578.out
              have hnc98 := NB578_577.out
              have hnb99 := NB577_585.out
              have hnc99 := NB585_577.out
              have hcz100_0 : wr.cell? ⟨gb577, 0, none⟩ = some (.int .i64 a1_0) := (blk_cell BK577.out 0).trans rfl
              have hcz100_1 : wr.cell? ⟨gb577, 1, none⟩ = some (.int .i64 a1_1) := (blk_cell BK577.out 1).trans rfl
              have hcz100_2 : wr.cell? ⟨gb577, 2, none⟩ = some (.int .i64 a1_2) := (blk_cell BK577.out 2).trans rfl
              have hfz100_0 := blk_frozen BK577.out 0
              have hfz100_1 := blk_frozen BK577.out 1
              have hfz100_2 := blk_frozen BK577.out 2
              try go_wp2_with (first | ((with_reducible refine gate_dst (N := 11) rfl ?_); refine box_event ?hg (N := 11) ?hd (cs := #[.int .i64 0, .int .i64 0, .int .i64 0]) (t := 67) ?hr ?_; (case hd => rfl); (case hg => rfl); (case hr => first | (go_simp; done) | (go_simp; rfl)); intro gb605 hg w101 hbox hb; have n0_ := Aside0.mk (bkb_ BK577.out hb); have n1_ := Aside0.mk (bkb_ BK578.out hb); have n2_ := Aside0.mk (bkb_ BK585.out hb); have n3_ := Aside0.mk (below_step (hb_ HB.out) hb); have n4_ := Aside0.mk (hbox); have n5_ := Aside0.mk ((by rw [hg]; exact (below_size (hb_ HB.out)) : w.heap.size ≤ gb605)); have n6_ := Aside0.mk ((by rw [hg]; exact (below_size (hb_ HB.out)) : w.heap.size ≤ gb605)); have n7_ := Aside0.mk ((by rw [hg]; exact Nat.ne_of_lt (bkl_ BK577.out) : gb577 ≠ gb605)); have n8_ := Aside0.mk ((by rw [hg]; exact Nat.ne_of_gt (bkl_ BK577.out) : gb605 ≠ gb577)); have n9_ := Aside0.mk ((by rw [hg]; exact Nat.ne_of_lt (bkl_ BK578.out) : gb578 ≠ gb605)); have n10_ := Aside0.mk ((by rw [hg]; exact Nat.ne_of_gt (bkl_ BK578.out) : gb605 ≠ gb578)); have n11_ := Aside0.mk ((by rw [hg]; exact Nat.ne_of_lt (bkl_ BK585.out) : gb585 ≠ gb605)); have n12_ := Aside0.mk ((by rw [hg]; exact Nat.ne_of_gt (bkl_ BK585.out) : gb605 ≠ gb585)); clear BK577; clear BK578; clear BK585; clear HB; have BK577 := n0_; have BK578 := n1_; have BK585 := n2_; have HB := n3_; have BK605 := n4_; have GW605 := n5_; have GE605 := n6_; have NB577_605 := n7_; have NB605_577 := n8_; have NB578_605 := n9_; have NB605_578 := n10_; have NB585_605 := n11_; have NB605_585 := n12_; clear n0_ n1_ n2_ n3_ n4_ n5_ n6_ n7_ n8_ n9_ n10_ n11_ n12_; clear hb hbox hg; have hnb102 := NB605_577.out; have hnc102 := NB577_605.out; have hnb103 := NB605_578.out; have hnc103 := NB578_605.out; have hnb104 := NB605_585.out; have hnc104 := NB585_605.out; have hcz105_0 : w101.cell? ⟨gb605, 0, none⟩ = some (.int .i64 0) := (blk_cell BK605.out 0).trans rfl; have hcz105_1 : w101.cell? ⟨gb605, 1, none⟩ = some (.int .i64 0) := (blk_cell BK605.out 1).trans rfl; have hcz105_2 : w101.cell? ⟨gb605, 2, none⟩ = some (.int .i64 0) := (blk_cell BK605.out 2).trans rfl; have hfz105_0 := blk_frozen BK605.out 0; have hfz105_1 := blk_frozen BK605.out 1; have hfz105_2 := blk_frozen BK605.out 2))
              have n0_ : Aside0 (((((w101.setCell ⟨gb605, 0, none⟩ (.int .i64 a1_0)).setCell ⟨gb605, 1, none⟩ (.int .i64 a1_1)).setCell ⟨gb605, 2, none⟩ (.int .i64 a1_2)).setCell ⟨gb605, 2, none⟩ (.int .i64 (wrap64 (a1_2 - 1)))).heap[gb577]? = some (.cells #[.int .i64 a1_0, .int .i64 a1_1, .int .i64 a1_2] 67 (0, 0))) := ⟨by (with_reducible repeat (first | refine blk_drewN ?_ _ | refine blk_drew ?_ | refine blk_alloc ?_ _)); refine blk_far ?_ NB577_605.out _; (with_reducible repeat (first | refine blk_drewN ?_ _ | refine blk_drew ?_ | refine blk_alloc ?_ _)); refine blk_far ?_ NB577_605.out _; (with_reducible repeat (first | refine blk_drewN ?_ _ | refine blk_drew ?_ | refine blk_alloc ?_ _)); refine blk_far ?_ NB577_605.out _; (with_reducible repeat (first | refine blk_drewN ?_ _ | refine blk_drew ?_ | refine blk_alloc ?_ _)); refine blk_far ?_ NB577_605.out _; (with_reducible repeat (first | refine blk_drewN ?_ _ | refine blk_drew ?_ | refine blk_alloc ?_ _)); exact BK577.out⟩
              have n1_ : Aside0 (((((w101.setCell ⟨gb605, 0, none⟩ (.int .i64 a1_0)).setCell ⟨gb605, 1, none⟩ (.int .i64 a1_1)).setCell ⟨gb605, 2, none⟩ (.int .i64 a1_2)).setCell ⟨gb605, 2, none⟩ (.int .i64 (wrap64 (a1_2 - 1)))).heap[gb578]? = some (.cells #[.int .i64 0, .int .i64 0] 25 (0, 0))) := ⟨by (with_reducible repeat (first | refine blk_drewN ?_ _ | refine blk_drew ?_ | refine blk_alloc ?_ _)); refine blk_far ?_ NB578_605.out _; (with_reducible repeat (first | refine blk_drewN ?_ _ | refine blk_drew ?_ | refine blk_alloc ?_ _)); refine blk_far ?_ NB578_605.out _; (with_reducible repeat (first | refine blk_drewN ?_ _ | refine blk_drew ?_ | refine blk_alloc ?_ _)); refine blk_far ?_ NB578_605.out _; (with_reducible repeat (first | refine blk_drewN ?_ _ | refine blk_drew ?_ | refine blk_alloc ?_ _)); refine blk_far ?_ NB578_605.out _; (with_reducible repeat (first | refine blk_drewN ?_ _ | refine blk_drew ?_ | refine blk_alloc ?_ _)); exact BK578.out⟩
              have n2_ : Aside0 (((((w101.setCell ⟨gb605, 0, none⟩ (.int .i64 a1_0)).setCell ⟨gb605, 1, none⟩ (.int .i64 a1_1)).setCell ⟨gb605, 2, none⟩ (.int .i64 a1_2)).setCell ⟨gb605, 2, none⟩ (.int .i64 (wrap64 (a1_2 - 1)))).heap[gb585]? = some (.cells #[.int .i64 x586000_2, .int .i64 x586001_2] 25 (0, 0))) := ⟨by (with_reducible repeat (first | refine blk_drewN ?_ _ | refine blk_drew ?_ | refine blk_alloc ?_ _)); refine blk_far ?_ NB585_605.out _; (with_reducible repeat (first | refine blk_drewN ?_ _ | refine blk_drew ?_ | refine blk_alloc ?_ _)); refine blk_far ?_ NB585_605.out _; (with_reducible repeat (first | refine blk_drewN ?_ _ | refine blk_drew ?_ | refine blk_alloc ?_ _)); refine blk_far ?_ NB585_605.out _; (with_reducible repeat (first | refine blk_drewN ?_ _ | refine blk_drew ?_ | refine blk_alloc ?_ _)); refine blk_far ?_ NB585_605.out _; (with_reducible repeat (first | refine blk_drewN ?_ _ | refine blk_drew ?_ | refine blk_alloc ?_ _)); exact BK585.out⟩
              have n3_ : Aside0 (((((w101.setCell ⟨gb605, 0, none⟩ (.int .i64 a1_0)).setCell ⟨gb605, 1, none⟩ (.int .i64 a1_1)).setCell ⟨gb605, 2, none⟩ (.int .i64 a1_2)).setCell ⟨gb605, 2, none⟩ (.int .i64 (wrap64 (a1_2 - 1)))).heap[gb605]? = some (.cells #[.int .i64 a1_0, .int .i64 a1_1, .int .i64 (wrap64 (a1_2 - 1))] 67 (0, 0))) := ⟨by (with_reducible repeat (first | refine blk_drewN ?_ _ | refine blk_drew ?_ | refine blk_alloc ?_ _)); refine blk_put (cs := #[.int .i64 a1_0, .int .i64 a1_1, .int .i64 a1_2]) ?_ 2 _ rfl; (with_reducible repeat (first | refine blk_drewN ?_ _ | refine blk_drew ?_ | refine blk_alloc ?_ _)); refine blk_put (cs := #[.int .i64 a1_0, .int .i64 a1_1, .int .i64 0]) ?_ 2 _ rfl; (with_reducible repeat (first | refine blk_drewN ?_ _ | refine blk_drew ?_ | refine blk_alloc ?_ _)); refine blk_put (cs := #[.int .i64 a1_0, .int .i64 0, .int .i64 0]) ?_ 1 _ rfl; (with_reducible repeat (first | refine blk_drewN ?_ _ | refine blk_drew ?_ | refine blk_alloc ?_ _)); refine blk_put (cs := #[.int .i64 0, .int .i64 0, .int .i64 0]) ?_ 0 _ rfl; (with_reducible repeat (first | refine blk_drewN ?_ _ | refine blk_drew ?_ | refine blk_alloc ?_ _)); exact BK605.out⟩
              have n4_ : Aside0 (Below w.heap.size w ((((w101.setCell ⟨gb605, 0, none⟩ (.int .i64 a1_0)).setCell ⟨gb605, 1, none⟩ (.int .i64 a1_1)).setCell ⟨gb605, 2, none⟩ (.int .i64 a1_2)).setCell ⟨gb605, 2, none⟩ (.int .i64 (wrap64 (a1_2 - 1))))) := ⟨by repeat (first | (with_reducible first | exact HB.out | apply below_alloc | apply pw_below_drewN | apply below_drew1 | refine below_set ?_ GE577.out | refine below_set ?_ GE578.out | refine below_set ?_ GE585.out | refine below_set ?_ GE605.out) | exact HB.out)⟩
              (try clear BK577)
              (try clear BK578)
              (try clear BK585)
              (try clear BK605)
              (try clear HB)
              generalize ((((w101.setCell ⟨gb605, 0, none⟩ (.int .i64 a1_0)).setCell ⟨gb605, 1, none⟩ (.int .i64 a1_1)).setCell ⟨gb605, 2, none⟩ (.int .i64 a1_2)).setCell ⟨gb605, 2, none⟩ (.int .i64 (wrap64 (a1_2 - 1)))) = w106 at n0_ n1_ n2_ n3_ n4_ ⊢
              have BK577 := n0_
              have BK578 := n1_
              have BK585 := n2_
              have BK605 := n3_
              have HB := n4_
              clear n0_ n1_ n2_ n3_ n4_
              have n0_ := Aside0.mk (blk_drew BK577.out)
              have n1_ := Aside0.mk (blk_drew BK578.out)
              have n2_ := Aside0.mk (blk_drew BK585.out)
              have n3_ := Aside0.mk (blk_drew BK605.out)
              have n4_ := Aside0.mk (below_drew1 HB.out)
              clear BK577
              clear BK578
              clear BK585
              clear BK605
              clear HB
              have BK577 := n0_
              have BK578 := n1_
              have BK585 := n2_
              have BK605 := n3_
              have HB := n4_
              clear n0_ n1_ n2_ n3_ n4_
              refine start_ (n := 10) (S := fun w' => w'.cell? ⟨gb585, 0, none⟩ = some (.int .i64 x586000_2) ∧ w'.cell? ⟨gb585, 1, none⟩ = some (.int .i64 x586001_2) ∧ w'.cell? ⟨gb605, 0, none⟩ = some (.int .i64 a1_0) ∧ w'.cell? ⟨gb605, 1, none⟩ = some (.int .i64 a1_1) ∧ w'.cell? ⟨gb605, 2, none⟩ = some (.int .i64 (wrap64 (a1_2 - 1)))) (ds := [9]) #[false, false, false, false, false, false, false, false, false, false] (by kernel_rfl) rfl rfl ⟨(blk_cell BK585.out 0).trans rfl, (blk_cell BK585.out 1).trans rfl, (blk_cell BK605.out 0).trans rfl, (blk_cell BK605.out 1).trans rfl, (blk_cell BK605.out 2).trans rfl⟩ (fun hHeld => ?_); refine with_tabW comfitref04_pairs.tab17 comfitref04_pairs.bits17 (fun HT_ HW_ => ?_)
              generalize w106.drew = w107 at BK577 BK578 BK585 BK605 HB hHeld ⊢
              refine pure_ (i := 1) (N := some 56) (v := ?_) (a' := ?_) #[false, true, false, false, false, false, false, false, false, false] rfl rfl (any_of HT_.out (by kernel_rfl)) (fun _ _ _ h => h) (Or.inl ⟨by rfl, ?_⟩) ?_ ?_
              rotate_left
              ·intro w'
               go_simp
               with_reducible rfl
              rotate_left
              ·simp only [Act.put, List.setIfInBounds_toArray, List.set_cons_zero, List.set_cons_succ, i64_w, i32_w]
               rfl
              refine pure_ (i := 2) (N := some 57) (v := ?_) (a' := ?_) #[false, true, true, false, false, false, false, false, false, false] rfl rfl (any_of HT_.out (by kernel_rfl)) (fun _ _ _ h => h) (Or.inl ⟨by rfl, ?_⟩) ?_ ?_
              rotate_left
              ·intro w'
               go_simp
               with_reducible rfl
              rotate_left
              ·simp only [Act.put, List.setIfInBounds_toArray, List.set_cons_zero, List.set_cons_succ, i64_w, i32_w]
               rfl
              refine pure_ (i := 4) (N := some 59) (v := ?_) (a' := ?_) #[false, true, true, false, true, false, false, false, false, false] rfl rfl (any_of HT_.out (by kernel_rfl)) (fun _ _ _ h => h) (Or.inl ⟨by rfl, ?_⟩) ?_ ?_
              rotate_left
              ·intro w'
               go_simp
               with_reducible rfl
              rotate_left
              ·simp only [Act.put, List.setIfInBounds_toArray, List.set_cons_zero, List.set_cons_succ, i64_w, i32_w]
               rfl
              refine take_ (i := 0) (N := some 55) (v := ?_) (a' := ?_) #[true, true, true, false, true, false, false, false, false, false] rfl rfl (take_ofW HT_.out HW_.out (by kernel_rfl)) (fun _ _ _ h => h) (Or.inl ⟨by rfl, ?_⟩) hHeld ?_ ?_
              rotate_left
              ·rintro w' ⟨s0, s1, s2, s3, s4⟩
               go_simp
               with_reducible rfl
              rotate_left
              ·simp only [Act.put, List.setIfInBounds_toArray, List.set_cons_zero, List.set_cons_succ, i64_w, i32_w]
               rfl
              refine take_ (i := 5) (N := some 60) (v := ?_) (a' := ?_) #[true, true, true, false, true, true, false, false, false, false] rfl rfl (take_ofW HT_.out HW_.out (by kernel_rfl)) (fun _ _ _ h => h) (Or.inl ⟨by rfl, ?_⟩) hHeld ?_ ?_
              rotate_left
              ·rintro w' ⟨s0, s1, s2, s3, s4⟩
               go_simp
               with_reducible rfl
              rotate_left
              ·simp only [Act.put, List.setIfInBounds_toArray, List.set_cons_zero, List.set_cons_succ, i64_w, i32_w]
               rfl
              refine one_ (i := 3) (N := some 58) #[true, true, true, true, true, true, false, false, false, false] rfl rfl (one_of HT_.out (by kernel_rfl)) (by decide) (fun K hK => ?_)
              refine goes_ Try.func60 (by kernel_rfl) rfl #[.int .i64 (rd l0 2), .int .i64 x5_1] (by rfl) rfl rfl al_ ?_
              with_reducible refine (comfitref04_frac.calls k2 (rd l0 2) x5_1 t606 t607 _ A94.out).mono ?_
              rintro e w108 ⟨rfl, hb⟩
              refine ⟨_, rfl, ?_⟩
              have n0_ := Aside0.mk (bkb_ BK577.out hb)
              have n1_ := Aside0.mk (bkb_ BK578.out hb)
              have n2_ := Aside0.mk (bkb_ BK585.out hb)
              have n3_ := Aside0.mk (bkb_ BK605.out hb)
              have n4_ := Aside0.mk (below_step (hb_ HB.out) hb)
              clear BK577
              clear BK578
              clear BK585
              clear BK605
              clear HB
              have BK577 := n0_
              have BK578 := n1_
              have BK585 := n2_
              have BK605 := n3_
              have HB := n4_
              clear n0_ n1_ n2_ n3_ n4_
              (try clear hb)
              (try clear hb2)
              (try clear hk)
              (try clear hi)
              refine hK.out _ _ ⟨(blk_cell BK585.out 0).trans rfl, (blk_cell BK585.out 1).trans rfl, (blk_cell BK605.out 0).trans rfl, (blk_cell BK605.out 1).trans rfl, (blk_cell BK605.out 2).trans rfl⟩ (fun hHeld => ?_)
              clear hK K
              refine norm_ (a' := ?_) ?_ ?_
              rotate_left
              ·show Act.put _ (some 58) _ = _
               simp only [Act.put, List.setIfInBounds_toArray, List.set_cons_zero, List.set_cons_succ, i64_w, i32_w]
               rfl
              refine one_ (i := 6) (N := some 61) #[true, true, true, true, true, true, true, false, false, false] rfl rfl (one_of HT_.out (by kernel_rfl)) (by decide) (fun K hK => ?_)
              refine goes_ Try.func73 (by kernel_rfl) rfl #[.slice (some ad586) l0.length c0, .agg #[.int .i64 a1_0, .int .i64 a1_1, .int .i64 (wrap64 (a1_2 - 1))]] (by rfl) rfl rfl al_ ?_
              with_reducible refine (ih k2 (by have := HK1.out; have := HK2.out; omega) _ _ l0 a1_0 a1_1 (wrap64 (a1_2 - 1)) t608 t609 _ ?side1 ?side2 A95.out).mono ?_
              (case side1 => exact kc_ (Kd.C_below HR0.out HB.out))
              (case side2 => exact HC0.out)
              rintro e w109 ⟨rfl, hb⟩
              refine ⟨_, rfl, ?_⟩
              have n0_ := Aside0.mk (bkb_ BK577.out hb)
              have n1_ := Aside0.mk (bkb_ BK578.out hb)
              have n2_ := Aside0.mk (bkb_ BK585.out hb)
              have n3_ := Aside0.mk (bkb_ BK605.out hb)
              have n4_ := Aside0.mk (below_step (hb_ HB.out) hb)
              clear BK577
              clear BK578
              clear BK585
              clear BK605
              clear HB
              have BK577 := n0_
              have BK578 := n1_
              have BK585 := n2_
              have BK605 := n3_
              have HB := n4_
              clear n0_ n1_ n2_ n3_ n4_
              (try clear hb)
              (try clear hb2)
              (try clear hk)
              (try clear hi)
              refine hK.out _ _ ⟨(blk_cell BK585.out 0).trans rfl, (blk_cell BK585.out 1).trans rfl, (blk_cell BK605.out 0).trans rfl, (blk_cell BK605.out 1).trans rfl, (blk_cell BK605.out 2).trans rfl⟩ (fun hHeld => ?_)
              clear hK K
              refine norm_ (a' := ?_) ?_ ?_
              rotate_left
              ·show Act.put _ (some 61) _ = _
               simp only [Act.put, List.setIfInBounds_toArray, List.set_cons_zero, List.set_cons_succ, i64_w, i32_w]
               rfl
              refine one_ (i := 7) (N := some 62) #[true, true, true, true, true, true, true, true, false, false] rfl rfl (one_of HT_.out (by kernel_rfl)) (by decide) (fun K hK => ?_)
              refine goes_ Try.func61 (by kernel_rfl) rfl #[.agg #[.int .i64 t606, .int .i64 t607], .agg #[.int .i64 t608, .int .i64 t609]] (by rfl) rfl rfl al_ ?_
              with_reducible refine (comfitref04_times.calls k2 t606 t607 t608 t609 t610 t611 _ A96.out).mono ?_
              rintro e w110 ⟨rfl, hb⟩
              refine ⟨_, rfl, ?_⟩
              have n0_ := Aside0.mk (bkb_ BK577.out hb)
              have n1_ := Aside0.mk (bkb_ BK578.out hb)
              have n2_ := Aside0.mk (bkb_ BK585.out hb)
              have n3_ := Aside0.mk (bkb_ BK605.out hb)
              have n4_ := Aside0.mk (below_step (hb_ HB.out) hb)
              clear BK577
              clear BK578
              clear BK585
              clear BK605
              clear HB
              have BK577 := n0_
              have BK578 := n1_
              have BK585 := n2_
              have BK605 := n3_
              have HB := n4_
              clear n0_ n1_ n2_ n3_ n4_
              (try clear hb)
              (try clear hb2)
              (try clear hk)
              (try clear hi)
              refine hK.out _ _ ⟨(blk_cell BK585.out 0).trans rfl, (blk_cell BK585.out 1).trans rfl, (blk_cell BK605.out 0).trans rfl, (blk_cell BK605.out 1).trans rfl, (blk_cell BK605.out 2).trans rfl⟩ (fun hHeld => ?_)
              clear hK K
              refine norm_ (a' := ?_) ?_ ?_
              rotate_left
              ·show Act.put _ (some 62) _ = _
               simp only [Act.put, List.setIfInBounds_toArray, List.set_cons_zero, List.set_cons_succ, i64_w, i32_w]
               rfl
              refine one_ (i := 8) (N := some 63) #[true, true, true, true, true, true, true, true, true, false] rfl rfl (one_of HT_.out (by kernel_rfl)) (by decide) (fun K hK => ?_)
              refine goes_ Try.func58 (by kernel_rfl) rfl #[.agg #[.int .i64 x586000_2, .int .i64 x586001_2], .agg #[.int .i64 t610, .int .i64 t611]] (by rfl) rfl rfl al_ ?_
              with_reducible refine (comfitref04_Plus.calls k2 x586000_2 x586001_2 t610 t611 t612 t613 _ A97.out).mono ?_
              rintro e w111 ⟨rfl, hb⟩
              refine ⟨_, rfl, ?_⟩
              have n0_ := Aside0.mk (bkb_ BK577.out hb)
              have n1_ := Aside0.mk (bkb_ BK578.out hb)
              have n2_ := Aside0.mk (bkb_ BK585.out hb)
              have n3_ := Aside0.mk (bkb_ BK605.out hb)
              have n4_ := Aside0.mk (below_step (hb_ HB.out) hb)
              clear BK577
              clear BK578
              clear BK585
              clear BK605
              clear HB
              have BK577 := n0_
              have BK578 := n1_
              have BK585 := n2_
              have BK605 := n3_
              have HB := n4_
              clear n0_ n1_ n2_ n3_ n4_
              (try clear hb)
              (try clear hb2)
              (try clear hk)
              (try clear hi)
              refine hK.out _ _ ⟨(blk_cell BK585.out 0).trans rfl, (blk_cell BK585.out 1).trans rfl, (blk_cell BK605.out 0).trans rfl, (blk_cell BK605.out 1).trans rfl, (blk_cell BK605.out 2).trans rfl⟩ (fun hHeld => ?_)
              clear hK K
              refine norm_ (a' := ?_) ?_ ?_
              rotate_left
              ·show Act.put _ (some 63) _ = _
               simp only [Act.put, List.setIfInBounds_toArray, List.set_cons_zero, List.set_cons_succ, i64_w, i32_w]
               rfl
              refine last_ (i := 9) (N := none) #[true, true, true, true, true, true, true, true, true, true] rfl rfl (one_of HT_.out (by kernel_rfl)) (by decide) (fun K hK => ?_)
              have hs112 : w111.cell? ⟨gb585, 0, none⟩ = some (.int .i64 x586000_2) := (blk_cell BK585.out 0).trans rfl
              have hfs112 := blk_frozen BK585.out 0
              have hns112_0 := NB577_585.out
              have hns112_1 := NB578_585.out
              have hns112_3 := NB605_585.out
              have hms112_0 := NB585_577.out
              have hms112_1 := NB585_578.out
              have hms112_3 := NB585_605.out
              have hs113 : w111.cell? ⟨gb585, 1, none⟩ = some (.int .i64 x586001_2) := (blk_cell BK585.out 1).trans rfl
              have hfs113 := blk_frozen BK585.out 1
              have hns113_0 := NB577_585.out
              have hns113_1 := NB578_585.out
              have hns113_3 := NB605_585.out
              have hms113_0 := NB585_577.out
              have hms113_1 := NB585_578.out
              have hms113_3 := NB585_605.out
              refine skip_ (w1 := ?_) (by rfl) rfl ?_ ?_
              rotate_left
              ·go_simp
               rfl
              refine hK.out _ _ ?_
              clear hK K
              refine done_ (done_of HT_.out (by kernel_rfl)) ?_
              try go_wp2
              go_roundg k2
              case measure => have := HK1.out; have := HK2.out; omega
              case rel => exact ⟨(3), (t612), (t613), (by first | rfl | (simp; done) | (simp [*]; done)), H', ⟨by have := HK1.out; have := HK2.out; omega⟩, ⟨by (with_reducible repeat (first | refine blk_drewN ?_ _ | refine blk_drew ?_ | refine blk_alloc ?_ _)); refine blk_far ?_ NB577_585.out _; (with_reducible repeat (first | refine blk_drewN ?_ _ | refine blk_drew ?_ | refine blk_alloc ?_ _)); refine blk_far ?_ NB577_585.out _; (with_reducible repeat (first | refine blk_drewN ?_ _ | refine blk_drew ?_ | refine blk_alloc ?_ _)); exact BK577.out⟩, ⟨by (with_reducible repeat (first | refine blk_drewN ?_ _ | refine blk_drew ?_ | refine blk_alloc ?_ _)); refine blk_far ?_ NB578_585.out _; (with_reducible repeat (first | refine blk_drewN ?_ _ | refine blk_drew ?_ | refine blk_alloc ?_ _)); refine blk_far ?_ NB578_585.out _; (with_reducible repeat (first | refine blk_drewN ?_ _ | refine blk_drew ?_ | refine blk_alloc ?_ _)); exact BK578.out⟩, ⟨by (with_reducible repeat (first | refine blk_drewN ?_ _ | refine blk_drew ?_ | refine blk_alloc ?_ _)); refine blk_put (cs := #[.int .i64 t612, .int .i64 x586001_2]) ?_ 1 _ rfl; (with_reducible repeat (first | refine blk_drewN ?_ _ | refine blk_drew ?_ | refine blk_alloc ?_ _)); refine blk_put (cs := #[.int .i64 x586000_2, .int .i64 x586001_2]) ?_ 0 _ rfl; (with_reducible repeat (first | refine blk_drewN ?_ _ | refine blk_drew ?_ | refine blk_alloc ?_ _)); exact BK585.out⟩, ⟨by repeat (first | (with_reducible first | exact HB.out | apply below_alloc | apply pw_below_drewN | apply below_drew1 | refine below_set ?_ GE577.out | refine below_set ?_ GE578.out | refine below_set ?_ GE585.out | refine below_set ?_ GE605.out) | exact HB.out)⟩⟩
             ·rw [if_neg c93] at H
              have c93b0 : decide (0 < a1_2) = false := decide_eq_false c93
              clear c93
              have H' := Aside0.mk H
              clear H
              have p586 : 0 ≤ (2 : Int) := (by omega)
              have q586 : 2 < (l0.length : Int) := of_decide_eq_true (by first | (with_reducible assumption) | assumption)
              obtain ⟨ad586, e586, hx586_0⟩ := Kd.at_int HR0.out 2 p586 q586
              cases e586
              (try simp only [show (2 : Int).toNat = 2 from rfl, Nat.reduceMul, Nat.reduceEqDiff, Go.Addr.add, ↓reduceIte] at hx586_0)
              have qi586 : (2 < l0.length) = True := eq_true (by omega)
              (try rw [show ((2 : Int)).toNat = 2 from rfl] at hx586_0)
              replace hx586_0 := (HB.out.cell (World.block_lt_of_cell? w _ hx586_0)).trans hx586_0
              replace p586 := eq_true p586
              replace q586 := eq_true q586
              have hnb114 := NB577_578.out
              have hnc114 := NB578_577.out
              have hnb115 := NB577_585.out
              have hnc115 := NB585_577.out
              have hcz116_0 : wr.cell? ⟨gb577, 0, none⟩ = some (.int .i64 a1_0) := (blk_cell BK577.out 0).trans rfl
              have hcz116_1 : wr.cell? ⟨gb577, 1, none⟩ = some (.int .i64 a1_1) := (blk_cell BK577.out 1).trans rfl
              have hcz116_2 : wr.cell? ⟨gb577, 2, none⟩ = some (.int .i64 a1_2) := (blk_cell BK577.out 2).trans rfl
              have hfz116_0 := blk_frozen BK577.out 0
              have hfz116_1 := blk_frozen BK577.out 1
              have hfz116_2 := blk_frozen BK577.out 2
              go_wp2
              go_roundg k2
              case measure => have := HK1.out; have := HK2.out; omega
              case rel => exact ⟨(3), (x586000_2), (x586001_2), (by first | rfl | (simp; done) | (simp [*]; done)), H', ⟨by have := HK1.out; have := HK2.out; omega⟩, ⟨by (with_reducible repeat (first | refine blk_drewN ?_ _ | refine blk_drew ?_ | refine blk_alloc ?_ _)); exact BK577.out⟩, ⟨by (with_reducible repeat (first | refine blk_drewN ?_ _ | refine blk_drew ?_ | refine blk_alloc ?_ _)); exact BK578.out⟩, ⟨by (with_reducible repeat (first | refine blk_drewN ?_ _ | refine blk_drew ?_ | refine blk_alloc ?_ _)); exact BK585.out⟩, ⟨by repeat (first | (with_reducible first | exact HB.out | apply below_alloc | apply pw_below_drewN | apply below_drew1 | refine below_set ?_ GE577.out | refine below_set ?_ GE578.out | refine below_set ?_ GE585.out) | exact HB.out)⟩⟩
            ·rw [if_neg c92] at H
             exact absurd H (by simp)
         ·rw [if_neg c41] at H
          exact absurd H (by simp)
        ·rw [if_neg c40] at H
         exact absurd H (by simp)
       ·rw [if_neg c39] at H
        have c39b0 : decide (x40_2 < (l0.length : Int)) = false := decide_eq_false c39
        clear c39
        simp only [Option.some.injEq, Prod.mk.injEq] at H
        obtain ⟨rfl, rfl⟩ := H
        have hnb117 := NB585_577.out
        have hnc117 := NB577_585.out
        have hnb118 := NB585_578.out
        have hnc118 := NB578_585.out
        have hcz119_0 : wr.cell? ⟨gb585, 0, none⟩ = some (.int .i64 x586000_2) := (blk_cell BK585.out 0).trans rfl
        have hcz119_1 : wr.cell? ⟨gb585, 1, none⟩ = some (.int .i64 x586001_2) := (blk_cell BK585.out 1).trans rfl
        have hfz119_0 := blk_frozen BK585.out 0
        have hfz119_1 := blk_frozen BK585.out 1
        have hnb120 := NB578_577.out
        have hnc120 := NB577_578.out
        have hcz121_0 : wr.cell? ⟨gb578, 0, none⟩ = some (.int .i64 0) := (blk_cell BK578.out 0).trans rfl
        have hcz121_1 : wr.cell? ⟨gb578, 1, none⟩ = some (.int .i64 0) := (blk_cell BK578.out 1).trans rfl
        have hfz121_0 := blk_frozen BK578.out 0
        have hfz121_1 := blk_frozen BK578.out 1
        go_wp2
        refine bodyPost_ret (results_cell_row rfl _ _ gb578 25 #[.int .i64 x586000_2, .int .i64 x586001_2] (0, 0) _ rfl (by (with_reducible repeat (first | refine blk_drewN ?_ _ | refine blk_drew ?_ | refine blk_alloc ?_ _)); refine blk_put (cs := #[.int .i64 x586000_2, .int .i64 0]) ?_ 1 _ rfl; (with_reducible repeat (first | refine blk_drewN ?_ _ | refine blk_drew ?_ | refine blk_alloc ?_ _)); refine blk_put (cs := #[.int .i64 0, .int .i64 0]) ?_ 0 _ rfl; (with_reducible repeat (first | refine blk_drewN ?_ _ | refine blk_drew ?_ | refine blk_alloc ?_ _)); exact BK578.out) Try.underlying25 rfl (by kernel_rfl)) rfl ?_
        exact ⟨by first | rfl | (simp [errW_none, errW_some] <;> rfl) | (simp only [← hji31]; first | rfl | (simp [errW_none, errW_some] <;> rfl)) | (simp [*, errW_none, errW_some] <;> rfl), by repeat (first | (with_reducible first | exact HB.out | apply below_alloc | apply pw_below_drewN | apply below_drew1 | refine below_set ?_ GE577.out | refine below_set ?_ GE578.out | refine below_set ?_ GE585.out) | exact HB.out)⟩

end Go.Proofs.Ytigmhomfadimnaa.X
