/- Written by a program of this session (wip/tools/xprint.py, which calls the kit's print): Go functions as Lean functions, and for each the proof that the machine's call does what it says; no conditions but those that each theorem names. -/
import Derived.Test.YtdppnmfljfdhaaaQX0
import Derived.Test.YtdppnmfljfdhaaaQXP
import Derived.Test.YtdppnmfljfdhaaaQXlotstestcost
import Derived.Test.YtdppnmfljfdhaaaQXlotstestvalid
import Derived.Test.YtdppnmfljfdhaaaQXlotstestwhole
import Derived.Test.YtdppnmfljfdhaaaQHEnds
namespace Go.Proofs.Ytdppnmfljfdhaaa.X
open Go.RowKit Go.Proofs.YtdppnmfljfdhaaaW.PrintWords Go.Proofs.YtdppnmfljfdhaaaW.PrintLast Go.Proofs.YtdppnmfljfdhaaaW.PrintMore
attribute [local go_sem] max2_int min2_int max_two min_two max_three min_three max_four min_four   -- for this text's walks alone
set_option linter.unusedVariables false
set_option linter.unusedSimpArgs false

/-! ### lots_Price: function 43 -/
mutual
def lots_Price.j0 : Nat → Int → Bool → List Int → List Int → Int → Int → Int → Int → Int → Int → Int → Int → Option (Int × Int × Int)
 | 0, _, _, _, _, _, _, _, _, _, _, _, _ => none
 | k + 1, x15, x39, x519000, x519001, x524000, x524001, x524002, x524003, x524004, x524005, x524006, x524007 => if x39 = true then (some (0, 0, 2)) else ((lots_Plan_ends.f x519000 x519001).bind fun t526 => (lots_Price.l0 k x15 0 t526 (t526.length : Int) 0 x524000 x524001 x524002 x524003 x524004 x524005 x524006 x524007))
def lots_Price.l0 : Nat → Int → Int → List (S81) → Int → Int → Int → Int → Int → Int → Int → Int → Int → Int → Option (Int × Int × Int)
 | 0, _, _, _, _, _, _, _, _, _, _, _, _, _ => none
 | k + 1, x15, x16, x42, x43, x44, x524000, x524001, x524002, x524003, x524004, x524005, x524006, x524007 => if x44 < x43 then (if 0 ≤ x44 then (if x44 < (x42.length : Int) then ((lots_test_cost.f k x524000 x524001 x524002 x524003 x524004 x524005 x524006 x524007 ((rd_T81 x42 x44).f0) ((rd_T81 x42 x44).f1) ((rd_T81 x42 x44).f2) ((rd_T81 x42 x44).f3) x15).bind fun t531 => (lots_Price.l0 k x15 (wrap64 (x16 + (wrap64 (((rd_T81 x42 x44).f3) * t531)))) x42 x43 (wrap64 (x44 + 1)) x524000 x524001 x524002 x524003 x524004 x524005 x524006 x524007)) else (none)) else (none)) else ((lots_test_whole.f k x524000 x524001 x524002 x524003 x524004 x524005 x524006 x524007 x15).bind fun t532 => ((lots_frac.f k x16 t532).bind fun bt533 => (some (bt533.1, bt533.2, 0))))
end
def lots_Price.f (k : Nat) (l0_0 : List Int) (l0_1 : List Int) (a1_0 : Int) (a1_1 : Int) (a2_0 : Int) (a2_1 : Int) (a3_0 : Int) (a3_1 : Int) (a4 : Int) (a5 : Int) : Option (Int × Int × Int) := (lots_Plan_valid.f k l0_0 l0_1).bind fun t524 => (if t524 = true then ((lots_test_valid.f a1_0 a1_1 a2_0 a2_1 a3_0 a3_1 a4 a5).bind fun t525 => (if t525 = true then (lots_Price.j0 k (l0_0.length : Int) (decide ((l0_0.length : Int) > 6)) l0_0 l0_1 a1_0 a1_1 a2_0 a2_1 a3_0 a3_1 a4 a5) else (lots_Price.j0 k (l0_0.length : Int) true l0_0 l0_1 a1_0 a1_1 a2_0 a2_1 a3_0 a3_1 a4 a5))) else (lots_Price.j0 k (l0_0.length : Int) true l0_0 l0_1 a1_0 a1_1 a2_0 a2_1 a3_0 a3_1 a4 a5))
def lots_Price.T9 : Bool × List (List Nat × List Nat) := (true, [([], []), ([], []), ([1], [1]), ([], []), ([], []), ([], []), ([3, 4, 5], [3, 4, 5]), ([2, 6], [2, 6]), ([0, 7], [0, 7]), ([8, 6, 0, 1, 2, 3, 4, 5, 6, 7, 8], [0, 8])])
def lots_Price.B9 : List Nat := [0, 0, 2, 0, 0, 0, 56, 126, 255, 511]
theorem lots_Price.tab9 : rtab .any (opsOf Try.f43 9) = lots_Price.T9 := by kernel_rfl
theorem lots_Price.bits9 : waitsOk lots_Price.T9.2 lots_Price.B9 = true := by kernel_rfl
set_option maxHeartbeats 8000000 in
set_option maxRecDepth 100000 in
theorem lots_Price.calls (k : Nat) (A0_0 : Option Addr) (c0_0 : Nat) (l0_0 : List Int) (A0_1 : Option Addr) (c0_1 : Nat) (l0_1 : List Int) (a1_0 : Int) (a1_1 : Int) (a2_0 : Int) (a2_1 : Int) (a3_0 : Int) (a3_1 : Int) (a4 : Int) (a5 : Int) (r1 : Int) (r2 : Int) (r3 : Int) (w : World) (hr0_0 : Kd.C (Kd.int .i64) w A0_0 l0_0.length l0_0) (hc0_0 : l0_0.length ≤ c0_0) (hr0_1 : Kd.C (Kd.int .i64) w A0_1 l0_1.length l0_1) (hc0_1 : l0_1.length ≤ c0_1) (h : lots_Price.f k l0_0 l0_1 a1_0 a1_1 a2_0 a2_1 a3_0 a3_1 a4 a5 = some (r1, r2, r3)) :
  Calls Try.prog 43 #[.agg #[.slice A0_0 l0_0.length c0_0, .slice A0_1 l0_1.length c0_1], .agg #[.int .i64 a1_0, .int .i64 a1_1], .agg #[.int .i64 a2_0, .int .i64 a2_1], .agg #[.int .i64 a3_0, .int .i64 a3_1], .int .i64 a4, .int .i64 a5] w fun e w' => e = .returned (.tuple #[.agg #[.int .i64 r1, .int .i64 r2], .int .i64 r3]) ∧ Below w.heap.size w w' := by
 have hu32 := Try.underlying32
 have hu34 := Try.underlying34
 have hu28 := Try.underlying28
 have hu90 := Try.underlying90
 have hu81 := Try.underlying81
 have HR0_0 := Aside0.mk hr0_0
 have HC0_0 := Aside0.mk hc0_0
 clear hr0_0 hc0_0
 have HR0_1 := Aside0.mk hr0_1
 have HC0_1 := Aside0.mk hc0_1
 clear hr0_1 hc0_1
 have HB := Aside0.mk (Below.refl w.heap.size w)
 have H : ((lots_Plan_valid.f k l0_0 l0_1).bind fun t524 => (if t524 = true then ((lots_test_valid.f a1_0 a1_1 a2_0 a2_1 a3_0 a3_1 a4 a5).bind fun t525 => (if t525 = true then (lots_Price.j0 k (l0_0.length : Int) (decide ((l0_0.length : Int) > 6)) l0_0 l0_1 a1_0 a1_1 a2_0 a2_1 a3_0 a3_1 a4 a5) else (lots_Price.j0 k (l0_0.length : Int) true l0_0 l0_1 a1_0 a1_1 a2_0 a2_1 a3_0 a3_1 a4 a5))) else (lots_Price.j0 k (l0_0.length : Int) true l0_0 l0_1 a1_0 a1_1 a2_0 a2_1 a3_0 a3_1 a4 a5))) = some (r1, r2, r3) := h
 clear h
 have HC7 := Aside0.mk H
 clear H
 go_enter Try.func43, Try.ntmps43
 go_upto_region 3 with (first | ((with_reducible refine gate_dst (N := 6) rfl ?_); refine box_event ?hg (N := 6) ?hd (cs := #[.slice A0_0 l0_0.length c0_0, .slice A0_1 l0_1.length c0_1]) (t := 32) ?hr ?_; (case hd => rfl); (case hg => rfl); (case hr => first | (go_simp; done) | (go_simp; rfl)); intro gb518 hg w8 hbox hb; have n0_ := Aside0.mk (below_step (hb_ HB.out) hb); have n1_ := Aside0.mk (hbox); have n2_ := Aside0.mk ((by rw [hg]; exact (below_size (hb_ HB.out)) : w.heap.size ≤ gb518)); have n3_ := Aside0.mk ((by rw [hg]; exact (below_size (hb_ HB.out)) : w.heap.size ≤ gb518)); clear HB; have HB := n0_; have BK518 := n1_; have GW518 := n2_; have GE518 := n3_; clear n0_ n1_ n2_ n3_; clear hb hbox hg) | ((with_reducible refine gate_dst (N := 7) rfl ?_); refine box_event ?hg (N := 7) ?hd (cs := #[.int .i64 a1_0, .int .i64 a1_1]) (t := 34) ?hr ?_; (case hd => rfl); (case hg => rfl); (case hr => first | (go_simp; done) | (go_simp; rfl)); intro gb519 hg w9 hbox hb; have n0_ := Aside0.mk (bkb_ BK518.out hb); have n1_ := Aside0.mk (below_step (hb_ HB.out) hb); have n2_ := Aside0.mk (hbox); have n3_ := Aside0.mk ((by rw [hg]; exact (below_size (hb_ HB.out)) : w.heap.size ≤ gb519)); have n4_ := Aside0.mk ((by rw [hg]; exact (below_size (hb_ HB.out)) : w.heap.size ≤ gb519)); have n5_ := Aside0.mk ((by rw [hg]; exact Nat.ne_of_lt (bkl_ BK518.out) : gb518 ≠ gb519)); have n6_ := Aside0.mk ((by rw [hg]; exact Nat.ne_of_gt (bkl_ BK518.out) : gb519 ≠ gb518)); clear BK518; clear HB; have BK518 := n0_; have HB := n1_; have BK519 := n2_; have GW519 := n3_; have GE519 := n4_; have NB518_519 := n5_; have NB519_518 := n6_; clear n0_ n1_ n2_ n3_ n4_ n5_ n6_; clear hb hbox hg) | ((with_reducible refine gate_dst (N := 8) rfl ?_); refine box_event ?hg (N := 8) ?hd (cs := #[.int .i64 a2_0, .int .i64 a2_1]) (t := 34) ?hr ?_; (case hd => rfl); (case hg => rfl); (case hr => first | (go_simp; done) | (go_simp; rfl)); intro gb520 hg w10 hbox hb; have n0_ := Aside0.mk (bkb_ BK518.out hb); have n1_ := Aside0.mk (bkb_ BK519.out hb); have n2_ := Aside0.mk (below_step (hb_ HB.out) hb); have n3_ := Aside0.mk (hbox); have n4_ := Aside0.mk ((by rw [hg]; exact (below_size (hb_ HB.out)) : w.heap.size ≤ gb520)); have n5_ := Aside0.mk ((by rw [hg]; exact (below_size (hb_ HB.out)) : w.heap.size ≤ gb520)); have n6_ := Aside0.mk ((by rw [hg]; exact Nat.ne_of_lt (bkl_ BK518.out) : gb518 ≠ gb520)); have n7_ := Aside0.mk ((by rw [hg]; exact Nat.ne_of_gt (bkl_ BK518.out) : gb520 ≠ gb518)); have n8_ := Aside0.mk ((by rw [hg]; exact Nat.ne_of_lt (bkl_ BK519.out) : gb519 ≠ gb520)); have n9_ := Aside0.mk ((by rw [hg]; exact Nat.ne_of_gt (bkl_ BK519.out) : gb520 ≠ gb519)); clear BK518; clear BK519; clear HB; have BK518 := n0_; have BK519 := n1_; have HB := n2_; have BK520 := n3_; have GW520 := n4_; have GE520 := n5_; have NB518_520 := n6_; have NB520_518 := n7_; have NB519_520 := n8_; have NB520_519 := n9_; clear n0_ n1_ n2_ n3_ n4_ n5_ n6_ n7_ n8_ n9_; clear hb hbox hg) | ((with_reducible refine gate_dst (N := 9) rfl ?_); refine box_event ?hg (N := 9) ?hd (cs := #[.int .i64 a3_0, .int .i64 a3_1]) (t := 34) ?hr ?_; (case hd => rfl); (case hg => rfl); (case hr => first | (go_simp; done) | (go_simp; rfl)); intro gb521 hg w11 hbox hb; have n0_ := Aside0.mk (bkb_ BK518.out hb); have n1_ := Aside0.mk (bkb_ BK519.out hb); have n2_ := Aside0.mk (bkb_ BK520.out hb); have n3_ := Aside0.mk (below_step (hb_ HB.out) hb); have n4_ := Aside0.mk (hbox); have n5_ := Aside0.mk ((by rw [hg]; exact (below_size (hb_ HB.out)) : w.heap.size ≤ gb521)); have n6_ := Aside0.mk ((by rw [hg]; exact (below_size (hb_ HB.out)) : w.heap.size ≤ gb521)); have n7_ := Aside0.mk ((by rw [hg]; exact Nat.ne_of_lt (bkl_ BK518.out) : gb518 ≠ gb521)); have n8_ := Aside0.mk ((by rw [hg]; exact Nat.ne_of_gt (bkl_ BK518.out) : gb521 ≠ gb518)); have n9_ := Aside0.mk ((by rw [hg]; exact Nat.ne_of_lt (bkl_ BK519.out) : gb519 ≠ gb521)); have n10_ := Aside0.mk ((by rw [hg]; exact Nat.ne_of_gt (bkl_ BK519.out) : gb521 ≠ gb519)); have n11_ := Aside0.mk ((by rw [hg]; exact Nat.ne_of_lt (bkl_ BK520.out) : gb520 ≠ gb521)); have n12_ := Aside0.mk ((by rw [hg]; exact Nat.ne_of_gt (bkl_ BK520.out) : gb521 ≠ gb520)); clear BK518; clear BK519; clear BK520; clear HB; have BK518 := n0_; have BK519 := n1_; have BK520 := n2_; have HB := n3_; have BK521 := n4_; have GW521 := n5_; have GE521 := n6_; have NB518_521 := n7_; have NB521_518 := n8_; have NB519_521 := n9_; have NB521_519 := n10_; have NB520_521 := n11_; have NB521_520 := n12_; clear n0_ n1_ n2_ n3_ n4_ n5_ n6_ n7_ n8_ n9_ n10_ n11_ n12_; clear hb hbox hg) | ((with_reducible refine gate_dst (N := 12) rfl ?_); refine box_event ?hg (N := 12) ?hd (cs := #[.int .i64 0, .int .i64 0]) (t := 28) ?hr ?_; (case hd => rfl); (case hg => rfl); (case hr => first | (go_simp; done) | (go_simp; rfl)); intro gb522 hg w12 hbox hb; have n0_ := Aside0.mk (bkb_ BK518.out hb); have n1_ := Aside0.mk (bkb_ BK519.out hb); have n2_ := Aside0.mk (bkb_ BK520.out hb); have n3_ := Aside0.mk (bkb_ BK521.out hb); have n4_ := Aside0.mk (below_step (hb_ HB.out) hb); have n5_ := Aside0.mk (hbox); have n6_ := Aside0.mk ((by rw [hg]; exact (below_size (hb_ HB.out)) : w.heap.size ≤ gb522)); have n7_ := Aside0.mk ((by rw [hg]; exact (below_size (hb_ HB.out)) : w.heap.size ≤ gb522)); have n8_ := Aside0.mk ((by rw [hg]; exact Nat.ne_of_lt (bkl_ BK518.out) : gb518 ≠ gb522)); have n9_ := Aside0.mk ((by rw [hg]; exact Nat.ne_of_gt (bkl_ BK518.out) : gb522 ≠ gb518)); have n10_ := Aside0.mk ((by rw [hg]; exact Nat.ne_of_lt (bkl_ BK519.out) : gb519 ≠ gb522)); have n11_ := Aside0.mk ((by rw [hg]; exact Nat.ne_of_gt (bkl_ BK519.out) : gb522 ≠ gb519)); have n12_ := Aside0.mk ((by rw [hg]; exact Nat.ne_of_lt (bkl_ BK520.out) : gb520 ≠ gb522)); have n13_ := Aside0.mk ((by rw [hg]; exact Nat.ne_of_gt (bkl_ BK520.out) : gb522 ≠ gb520)); have n14_ := Aside0.mk ((by rw [hg]; exact Nat.ne_of_lt (bkl_ BK521.out) : gb521 ≠ gb522)); have n15_ := Aside0.mk ((by rw [hg]; exact Nat.ne_of_gt (bkl_ BK521.out) : gb522 ≠ gb521)); clear BK518; clear BK519; clear BK520; clear BK521; clear HB; have BK518 := n0_; have BK519 := n1_; have BK520 := n2_; have BK521 := n3_; have HB := n4_; have BK522 := n5_; have GW522 := n6_; have GE522 := n7_; have NB518_522 := n8_; have NB522_518 := n9_; have NB519_522 := n10_; have NB522_519 := n11_; have NB520_522 := n12_; have NB522_520 := n13_; have NB521_522 := n14_; have NB522_521 := n15_; clear n0_ n1_ n2_ n3_ n4_ n5_ n6_ n7_ n8_ n9_ n10_ n11_ n12_ n13_ n14_ n15_; clear hb hbox hg; have hnb13 := NB519_518.out; have hnc13 := NB518_519.out; have hnb14 := NB519_520.out; have hnc14 := NB520_519.out; have hnb15 := NB519_521.out; have hnc15 := NB521_519.out; have hnb16 := NB519_522.out; have hnc16 := NB522_519.out; have hcz17_0 : w12.cell? ⟨gb519, 0, none⟩ = some (.int .i64 a1_0) := (blk_cell BK519.out 0).trans rfl; have hcz17_1 : w12.cell? ⟨gb519, 1, none⟩ = some (.int .i64 a1_1) := (blk_cell BK519.out 1).trans rfl; have hfz17_0 := blk_frozen BK519.out 0; have hfz17_1 := blk_frozen BK519.out 1; have hnb18 := NB520_518.out; have hnc18 := NB518_520.out; have hnb19 := NB520_521.out; have hnc19 := NB521_520.out; have hnb20 := NB520_522.out; have hnc20 := NB522_520.out; have hcz21_0 : w12.cell? ⟨gb520, 0, none⟩ = some (.int .i64 a2_0) := (blk_cell BK520.out 0).trans rfl; have hcz21_1 : w12.cell? ⟨gb520, 1, none⟩ = some (.int .i64 a2_1) := (blk_cell BK520.out 1).trans rfl; have hfz21_0 := blk_frozen BK520.out 0; have hfz21_1 := blk_frozen BK520.out 1; have hnb22 := NB521_518.out; have hnc22 := NB518_521.out; have hnb23 := NB521_522.out; have hnc23 := NB522_521.out; have hcz24_0 : w12.cell? ⟨gb521, 0, none⟩ = some (.int .i64 a3_0) := (blk_cell BK521.out 0).trans rfl; have hcz24_1 : w12.cell? ⟨gb521, 1, none⟩ = some (.int .i64 a3_1) := (blk_cell BK521.out 1).trans rfl; have hfz24_0 := blk_frozen BK521.out 0; have hfz24_1 := blk_frozen BK521.out 1) | ((with_reducible refine gate_dst (N := 14) rfl ?_); refine box_event ?hg (N := 14) ?hd (cs := #[.int .i64 0, .int .i64 0, .int .i64 0, .int .i64 0, .int .i64 0, .int .i64 0, .int .i64 0, .int .i64 0]) (t := 90) ?hr ?_; (case hd => rfl); (case hg => rfl); (case hr => first | (go_simp; done) | (go_simp; rfl)); intro gb523 hg w25 hbox hb; have n0_ := Aside0.mk (bkb_ BK518.out hb); have n1_ := Aside0.mk (bkb_ BK519.out hb); have n2_ := Aside0.mk (bkb_ BK520.out hb); have n3_ := Aside0.mk (bkb_ BK521.out hb); have n4_ := Aside0.mk (bkb_ BK522.out hb); have n5_ := Aside0.mk (below_step (hb_ HB.out) hb); have n6_ := Aside0.mk (hbox); have n7_ := Aside0.mk ((by rw [hg]; exact (below_size (hb_ HB.out)) : w.heap.size ≤ gb523)); have n8_ := Aside0.mk ((by rw [hg]; exact (below_size (hb_ HB.out)) : w.heap.size ≤ gb523)); have n9_ := Aside0.mk ((by rw [hg]; exact Nat.ne_of_lt (bkl_ BK518.out) : gb518 ≠ gb523)); have n10_ := Aside0.mk ((by rw [hg]; exact Nat.ne_of_gt (bkl_ BK518.out) : gb523 ≠ gb518)); have n11_ := Aside0.mk ((by rw [hg]; exact Nat.ne_of_lt (bkl_ BK519.out) : gb519 ≠ gb523)); have n12_ := Aside0.mk ((by rw [hg]; exact Nat.ne_of_gt (bkl_ BK519.out) : gb523 ≠ gb519)); have n13_ := Aside0.mk ((by rw [hg]; exact Nat.ne_of_lt (bkl_ BK520.out) : gb520 ≠ gb523)); have n14_ := Aside0.mk ((by rw [hg]; exact Nat.ne_of_gt (bkl_ BK520.out) : gb523 ≠ gb520)); have n15_ := Aside0.mk ((by rw [hg]; exact Nat.ne_of_lt (bkl_ BK521.out) : gb521 ≠ gb523)); have n16_ := Aside0.mk ((by rw [hg]; exact Nat.ne_of_gt (bkl_ BK521.out) : gb523 ≠ gb521)); have n17_ := Aside0.mk ((by rw [hg]; exact Nat.ne_of_lt (bkl_ BK522.out) : gb522 ≠ gb523)); have n18_ := Aside0.mk ((by rw [hg]; exact Nat.ne_of_gt (bkl_ BK522.out) : gb523 ≠ gb522)); clear BK518; clear BK519; clear BK520; clear BK521; clear BK522; clear HB; have BK518 := n0_; have BK519 := n1_; have BK520 := n2_; have BK521 := n3_; have BK522 := n4_; have HB := n5_; have BK523 := n6_; have GW523 := n7_; have GE523 := n8_; have NB518_523 := n9_; have NB523_518 := n10_; have NB519_523 := n11_; have NB523_519 := n12_; have NB520_523 := n13_; have NB523_520 := n14_; have NB521_523 := n15_; have NB523_521 := n16_; have NB522_523 := n17_; have NB523_522 := n18_; clear n0_ n1_ n2_ n3_ n4_ n5_ n6_ n7_ n8_ n9_ n10_ n11_ n12_ n13_ n14_ n15_ n16_ n17_ n18_; clear hb hbox hg; have hnb26 := NB523_518.out; have hnc26 := NB518_523.out; have hnb27 := NB523_519.out; have hnc27 := NB519_523.out; have hnb28 := NB523_520.out; have hnc28 := NB520_523.out; have hnb29 := NB523_521.out; have hnc29 := NB521_523.out; have hnb30 := NB523_522.out; have hnc30 := NB522_523.out; have hcz31_0 : w25.cell? ⟨gb523, 0, none⟩ = some (.int .i64 0) := (blk_cell BK523.out 0).trans rfl; have hcz31_1 : w25.cell? ⟨gb523, 1, none⟩ = some (.int .i64 0) := (blk_cell BK523.out 1).trans rfl; have hcz31_2 : w25.cell? ⟨gb523, 2, none⟩ = some (.int .i64 0) := (blk_cell BK523.out 2).trans rfl; have hcz31_3 : w25.cell? ⟨gb523, 3, none⟩ = some (.int .i64 0) := (blk_cell BK523.out 3).trans rfl; have hcz31_4 : w25.cell? ⟨gb523, 4, none⟩ = some (.int .i64 0) := (blk_cell BK523.out 4).trans rfl; have hcz31_5 : w25.cell? ⟨gb523, 5, none⟩ = some (.int .i64 0) := (blk_cell BK523.out 5).trans rfl; have hcz31_6 : w25.cell? ⟨gb523, 6, none⟩ = some (.int .i64 0) := (blk_cell BK523.out 6).trans rfl; have hcz31_7 : w25.cell? ⟨gb523, 7, none⟩ = some (.int .i64 0) := (blk_cell BK523.out 7).trans rfl; have hfz31_0 := blk_frozen BK523.out 0; have hfz31_1 := blk_frozen BK523.out 1; have hfz31_2 := blk_frozen BK523.out 2; have hfz31_3 := blk_frozen BK523.out 3; have hfz31_4 := blk_frozen BK523.out 4; have hfz31_5 := blk_frozen BK523.out 5; have hfz31_6 := blk_frozen BK523.out 6; have hfz31_7 := blk_frozen BK523.out 7; have hnb32 := NB518_522.out; have hnc32 := NB522_518.out; have hcz33_0 : w25.cell? ⟨gb518, 0, none⟩ = some (.slice A0_0 l0_0.length c0_0) := (blk_cell BK518.out 0).trans rfl; have hcz33_1 : w25.cell? ⟨gb518, 1, none⟩ = some (.slice A0_1 l0_1.length c0_1) := (blk_cell BK518.out 1).trans rfl; have hfz33_0 := blk_frozen BK518.out 0; have hfz33_1 := blk_frozen BK518.out 1))
 (try simp only [Act.put, List.setIfInBounds_toArray, List.set_cons_zero, List.set_cons_succ])
 go_cut [39] (fun v39 wc => ∃ (kq : Nat) (x39_6 : Bool), v39 = .bool x39_6 ∧ Aside0 (lots_Price.j0 kq (l0_0.length : Int) x39_6 l0_0 l0_1 a1_0 a1_1 a2_0 a2_1 a3_0 a3_1 a4 a5 = some (r1, r2, r3)) ∧ Aside0 (kq ≤ k) ∧ Aside0 (wc.heap[gb518]? = some (.cells #[(.slice A0_0 l0_0.length c0_0), (.slice A0_1 l0_1.length c0_1)] 32 (0, 0))) ∧ Aside0 (wc.heap[gb519]? = some (.cells #[.int .i64 a1_0, .int .i64 a1_1] 34 (0, 0))) ∧ Aside0 (wc.heap[gb520]? = some (.cells #[.int .i64 a2_0, .int .i64 a2_1] 34 (0, 0))) ∧ Aside0 (wc.heap[gb521]? = some (.cells #[.int .i64 a3_0, .int .i64 a3_1] 34 (0, 0))) ∧ Aside0 (wc.heap[gb522]? = some (.cells #[.int .i64 0, .int .i64 0] 28 (0, 0))) ∧ Aside0 (wc.heap[gb523]? = some (.cells #[.int .i64 a1_0, .int .i64 a1_1, .int .i64 a2_0, .int .i64 a2_1, .int .i64 a3_0, .int .i64 a3_1, .int .i64 a4, .int .i64 a5] 90 (0, 0))) ∧ Aside0 (Below w.heap.size w wc))
 case first =>
  have H := HC7.out
  clear HC7
  replace H := Option.bind_eq_some_iff.mp H
  obtain ⟨t524, A340, H⟩ := H
  replace H : (if t524 = true then ((lots_test_valid.f a1_0 a1_1 a2_0 a2_1 a3_0 a3_1 a4 a5).bind fun t525 => (if t525 = true then (lots_Price.j0 k (l0_0.length : Int) (decide ((l0_0.length : Int) > 6)) l0_0 l0_1 a1_0 a1_1 a2_0 a2_1 a3_0 a3_1 a4 a5) else (lots_Price.j0 k (l0_0.length : Int) true l0_0 l0_1 a1_0 a1_1 a2_0 a2_1 a3_0 a3_1 a4 a5))) else (lots_Price.j0 k (l0_0.length : Int) true l0_0 l0_1 a1_0 a1_1 a2_0 a2_1 a3_0 a3_1 a4 a5)) = some (r1, r2, r3) := H
  have A34 := Aside0.mk A340
  clear A340
  by_cases c35 : t524 = true
  ·subst c35
   have H1 : ((lots_test_valid.f a1_0 a1_1 a2_0 a2_1 a3_0 a3_1 a4 a5).bind fun t525 => (if t525 = true then (lots_Price.j0 k (l0_0.length : Int) (decide ((l0_0.length : Int) > 6)) l0_0 l0_1 a1_0 a1_1 a2_0 a2_1 a3_0 a3_1 a4 a5) else (lots_Price.j0 k (l0_0.length : Int) true l0_0 l0_1 a1_0 a1_1 a2_0 a2_1 a3_0 a3_1 a4 a5))) = some (r1, r2, r3) := by rw [if_pos rfl] at H; exact H
   clear H
   have H := H1
   clear H1
   replace H := Option.bind_eq_some_iff.mp H
   obtain ⟨t525, A360, H⟩ := H
   replace H : (if t525 = true then (lots_Price.j0 k (l0_0.length : Int) (decide ((l0_0.length : Int) > 6)) l0_0 l0_1 a1_0 a1_1 a2_0 a2_1 a3_0 a3_1 a4 a5) else (lots_Price.j0 k (l0_0.length : Int) true l0_0 l0_1 a1_0 a1_1 a2_0 a2_1 a3_0 a3_1 a4 a5)) = some (r1, r2, r3) := H
   have A36 := Aside0.mk A360
   clear A360
   by_cases c37 : t525 = true
   ·subst c37
    have H1 : (lots_Price.j0 k (l0_0.length : Int) (decide ((l0_0.length : Int) > 6)) l0_0 l0_1 a1_0 a1_1 a2_0 a2_1 a3_0 a3_1 a4 a5) = some (r1, r2, r3) := by rw [if_pos rfl] at H; exact H
    clear H
    have H := H1
    clear H1
    have H' := Aside0.mk H
    clear H
    have hnb38 := NB518_519.out
    have hnc38 := NB519_518.out
    have hnb39 := NB518_520.out
    have hnc39 := NB520_518.out
    have hnb40 := NB518_521.out
    have hnc40 := NB521_518.out
    have hnb41 := NB518_522.out
    have hnc41 := NB522_518.out
    have hnb42 := NB518_523.out
    have hnc42 := NB523_518.out
    have hcz43_0 : w25.cell? ⟨gb518, 0, none⟩ = some (.slice A0_0 l0_0.length c0_0) := (blk_cell BK518.out 0).trans rfl
    have hcz43_1 : w25.cell? ⟨gb518, 1, none⟩ = some (.slice A0_1 l0_1.length c0_1) := (blk_cell BK518.out 1).trans rfl
    have hfz43_0 := blk_frozen BK518.out 0
    have hfz43_1 := blk_frozen BK518.out 1
    go_wp2_with (first | ((with_reducible refine gate_callee (f := 53) rfl ?_); refine goesL_ (some 29) rfl rfl Try.func53 (by kernel_rfl) rfl #[.agg #[.slice A0_0 l0_0.length c0_0, .slice A0_1 l0_1.length c0_1]] rfl al_ ?_; (with_reducible refine (lots_Plan_valid.calls k _ _ l0_0 _ _ l0_1 true _ ?side1 ?side2 ?side3 ?side4 A34.out).mono ?_); (case side1 => exact Kd.C_below HR0_0.out (hb_ HB.out)); (case side2 => exact HC0_0.out); (case side3 => exact Kd.C_below HR0_1.out (hb_ HB.out)); (case side4 => exact HC0_1.out); rintro e w44 ⟨rfl, hb⟩; refine ⟨_, rfl, ?_⟩; have n0_ := Aside0.mk (blk_below (g := gb518) (o := .cells #[.slice A0_0 l0_0.length c0_0, .slice A0_1 l0_1.length c0_1] 32 (0, 0)) (by (with_reducible repeat (first | refine blk_drewN ?_ _ | refine blk_drew ?_ | refine blk_alloc ?_ _)); refine blk_far ?_ NB518_523.out _; (with_reducible repeat (first | refine blk_drewN ?_ _ | refine blk_drew ?_ | refine blk_alloc ?_ _)); refine blk_far ?_ NB518_523.out _; (with_reducible repeat (first | refine blk_drewN ?_ _ | refine blk_drew ?_ | refine blk_alloc ?_ _)); refine blk_far ?_ NB518_523.out _; (with_reducible repeat (first | refine blk_drewN ?_ _ | refine blk_drew ?_ | refine blk_alloc ?_ _)); refine blk_far ?_ NB518_523.out _; (with_reducible repeat (first | refine blk_drewN ?_ _ | refine blk_drew ?_ | refine blk_alloc ?_ _)); refine blk_far ?_ NB518_523.out _; (with_reducible repeat (first | refine blk_drewN ?_ _ | refine blk_drew ?_ | refine blk_alloc ?_ _)); refine blk_far ?_ NB518_523.out _; (with_reducible repeat (first | refine blk_drewN ?_ _ | refine blk_drew ?_ | refine blk_alloc ?_ _)); refine blk_far ?_ NB518_523.out _; (with_reducible repeat (first | refine blk_drewN ?_ _ | refine blk_drew ?_ | refine blk_alloc ?_ _)); refine blk_far ?_ NB518_523.out _; (with_reducible repeat (first | refine blk_drewN ?_ _ | refine blk_drew ?_ | refine blk_alloc ?_ _)); exact BK518.out) hb); have n1_ := Aside0.mk (blk_below (g := gb519) (o := .cells #[.int .i64 a1_0, .int .i64 a1_1] 34 (0, 0)) (by (with_reducible repeat (first | refine blk_drewN ?_ _ | refine blk_drew ?_ | refine blk_alloc ?_ _)); refine blk_far ?_ NB519_523.out _; (with_reducible repeat (first | refine blk_drewN ?_ _ | refine blk_drew ?_ | refine blk_alloc ?_ _)); refine blk_far ?_ NB519_523.out _; (with_reducible repeat (first | refine blk_drewN ?_ _ | refine blk_drew ?_ | refine blk_alloc ?_ _)); refine blk_far ?_ NB519_523.out _; (with_reducible repeat (first | refine blk_drewN ?_ _ | refine blk_drew ?_ | refine blk_alloc ?_ _)); refine blk_far ?_ NB519_523.out _; (with_reducible repeat (first | refine blk_drewN ?_ _ | refine blk_drew ?_ | refine blk_alloc ?_ _)); refine blk_far ?_ NB519_523.out _; (with_reducible repeat (first | refine blk_drewN ?_ _ | refine blk_drew ?_ | refine blk_alloc ?_ _)); refine blk_far ?_ NB519_523.out _; (with_reducible repeat (first | refine blk_drewN ?_ _ | refine blk_drew ?_ | refine blk_alloc ?_ _)); refine blk_far ?_ NB519_523.out _; (with_reducible repeat (first | refine blk_drewN ?_ _ | refine blk_drew ?_ | refine blk_alloc ?_ _)); refine blk_far ?_ NB519_523.out _; (with_reducible repeat (first | refine blk_drewN ?_ _ | refine blk_drew ?_ | refine blk_alloc ?_ _)); exact BK519.out) hb); have n2_ := Aside0.mk (blk_below (g := gb520) (o := .cells #[.int .i64 a2_0, .int .i64 a2_1] 34 (0, 0)) (by (with_reducible repeat (first | refine blk_drewN ?_ _ | refine blk_drew ?_ | refine blk_alloc ?_ _)); refine blk_far ?_ NB520_523.out _; (with_reducible repeat (first | refine blk_drewN ?_ _ | refine blk_drew ?_ | refine blk_alloc ?_ _)); refine blk_far ?_ NB520_523.out _; (with_reducible repeat (first | refine blk_drewN ?_ _ | refine blk_drew ?_ | refine blk_alloc ?_ _)); refine blk_far ?_ NB520_523.out _; (with_reducible repeat (first | refine blk_drewN ?_ _ | refine blk_drew ?_ | refine blk_alloc ?_ _)); refine blk_far ?_ NB520_523.out _; (with_reducible repeat (first | refine blk_drewN ?_ _ | refine blk_drew ?_ | refine blk_alloc ?_ _)); refine blk_far ?_ NB520_523.out _; (with_reducible repeat (first | refine blk_drewN ?_ _ | refine blk_drew ?_ | refine blk_alloc ?_ _)); refine blk_far ?_ NB520_523.out _; (with_reducible repeat (first | refine blk_drewN ?_ _ | refine blk_drew ?_ | refine blk_alloc ?_ _)); refine blk_far ?_ NB520_523.out _; (with_reducible repeat (first | refine blk_drewN ?_ _ | refine blk_drew ?_ | refine blk_alloc ?_ _)); refine blk_far ?_ NB520_523.out _; (with_reducible repeat (first | refine blk_drewN ?_ _ | refine blk_drew ?_ | refine blk_alloc ?_ _)); exact BK520.out) hb); have n3_ := Aside0.mk (blk_below (g := gb521) (o := .cells #[.int .i64 a3_0, .int .i64 a3_1] 34 (0, 0)) (by (with_reducible repeat (first | refine blk_drewN ?_ _ | refine blk_drew ?_ | refine blk_alloc ?_ _)); refine blk_far ?_ NB521_523.out _; (with_reducible repeat (first | refine blk_drewN ?_ _ | refine blk_drew ?_ | refine blk_alloc ?_ _)); refine blk_far ?_ NB521_523.out _; (with_reducible repeat (first | refine blk_drewN ?_ _ | refine blk_drew ?_ | refine blk_alloc ?_ _)); refine blk_far ?_ NB521_523.out _; (with_reducible repeat (first | refine blk_drewN ?_ _ | refine blk_drew ?_ | refine blk_alloc ?_ _)); refine blk_far ?_ NB521_523.out _; (with_reducible repeat (first | refine blk_drewN ?_ _ | refine blk_drew ?_ | refine blk_alloc ?_ _)); refine blk_far ?_ NB521_523.out _; (with_reducible repeat (first | refine blk_drewN ?_ _ | refine blk_drew ?_ | refine blk_alloc ?_ _)); refine blk_far ?_ NB521_523.out _; (with_reducible repeat (first | refine blk_drewN ?_ _ | refine blk_drew ?_ | refine blk_alloc ?_ _)); refine blk_far ?_ NB521_523.out _; (with_reducible repeat (first | refine blk_drewN ?_ _ | refine blk_drew ?_ | refine blk_alloc ?_ _)); refine blk_far ?_ NB521_523.out _; (with_reducible repeat (first | refine blk_drewN ?_ _ | refine blk_drew ?_ | refine blk_alloc ?_ _)); exact BK521.out) hb); have n4_ := Aside0.mk (blk_below (g := gb522) (o := .cells #[.int .i64 0, .int .i64 0] 28 (0, 0)) (by (with_reducible repeat (first | refine blk_drewN ?_ _ | refine blk_drew ?_ | refine blk_alloc ?_ _)); refine blk_far ?_ NB522_523.out _; (with_reducible repeat (first | refine blk_drewN ?_ _ | refine blk_drew ?_ | refine blk_alloc ?_ _)); refine blk_far ?_ NB522_523.out _; (with_reducible repeat (first | refine blk_drewN ?_ _ | refine blk_drew ?_ | refine blk_alloc ?_ _)); refine blk_far ?_ NB522_523.out _; (with_reducible repeat (first | refine blk_drewN ?_ _ | refine blk_drew ?_ | refine blk_alloc ?_ _)); refine blk_far ?_ NB522_523.out _; (with_reducible repeat (first | refine blk_drewN ?_ _ | refine blk_drew ?_ | refine blk_alloc ?_ _)); refine blk_far ?_ NB522_523.out _; (with_reducible repeat (first | refine blk_drewN ?_ _ | refine blk_drew ?_ | refine blk_alloc ?_ _)); refine blk_far ?_ NB522_523.out _; (with_reducible repeat (first | refine blk_drewN ?_ _ | refine blk_drew ?_ | refine blk_alloc ?_ _)); refine blk_far ?_ NB522_523.out _; (with_reducible repeat (first | refine blk_drewN ?_ _ | refine blk_drew ?_ | refine blk_alloc ?_ _)); refine blk_far ?_ NB522_523.out _; (with_reducible repeat (first | refine blk_drewN ?_ _ | refine blk_drew ?_ | refine blk_alloc ?_ _)); exact BK522.out) hb); have n5_ := Aside0.mk (blk_below (g := gb523) (o := .cells #[.int .i64 a1_0, .int .i64 a1_1, .int .i64 a2_0, .int .i64 a2_1, .int .i64 a3_0, .int .i64 a3_1, .int .i64 a4, .int .i64 a5] 90 (0, 0)) (by (with_reducible repeat (first | refine blk_drewN ?_ _ | refine blk_drew ?_ | refine blk_alloc ?_ _)); refine blk_put (cs := #[.int .i64 a1_0, .int .i64 a1_1, .int .i64 a2_0, .int .i64 a2_1, .int .i64 a3_0, .int .i64 a3_1, .int .i64 a4, .int .i64 0]) ?_ 7 _ rfl; (with_reducible repeat (first | refine blk_drewN ?_ _ | refine blk_drew ?_ | refine blk_alloc ?_ _)); refine blk_put (cs := #[.int .i64 a1_0, .int .i64 a1_1, .int .i64 a2_0, .int .i64 a2_1, .int .i64 a3_0, .int .i64 a3_1, .int .i64 0, .int .i64 0]) ?_ 6 _ rfl; (with_reducible repeat (first | refine blk_drewN ?_ _ | refine blk_drew ?_ | refine blk_alloc ?_ _)); refine blk_put (cs := #[.int .i64 a1_0, .int .i64 a1_1, .int .i64 a2_0, .int .i64 a2_1, .int .i64 a3_0, .int .i64 0, .int .i64 0, .int .i64 0]) ?_ 5 _ rfl; (with_reducible repeat (first | refine blk_drewN ?_ _ | refine blk_drew ?_ | refine blk_alloc ?_ _)); refine blk_put (cs := #[.int .i64 a1_0, .int .i64 a1_1, .int .i64 a2_0, .int .i64 a2_1, .int .i64 0, .int .i64 0, .int .i64 0, .int .i64 0]) ?_ 4 _ rfl; (with_reducible repeat (first | refine blk_drewN ?_ _ | refine blk_drew ?_ | refine blk_alloc ?_ _)); refine blk_put (cs := #[.int .i64 a1_0, .int .i64 a1_1, .int .i64 a2_0, .int .i64 0, .int .i64 0, .int .i64 0, .int .i64 0, .int .i64 0]) ?_ 3 _ rfl; (with_reducible repeat (first | refine blk_drewN ?_ _ | refine blk_drew ?_ | refine blk_alloc ?_ _)); refine blk_put (cs := #[.int .i64 a1_0, .int .i64 a1_1, .int .i64 0, .int .i64 0, .int .i64 0, .int .i64 0, .int .i64 0, .int .i64 0]) ?_ 2 _ rfl; (with_reducible repeat (first | refine blk_drewN ?_ _ | refine blk_drew ?_ | refine blk_alloc ?_ _)); refine blk_put (cs := #[.int .i64 a1_0, .int .i64 0, .int .i64 0, .int .i64 0, .int .i64 0, .int .i64 0, .int .i64 0, .int .i64 0]) ?_ 1 _ rfl; (with_reducible repeat (first | refine blk_drewN ?_ _ | refine blk_drew ?_ | refine blk_alloc ?_ _)); refine blk_put (cs := #[.int .i64 0, .int .i64 0, .int .i64 0, .int .i64 0, .int .i64 0, .int .i64 0, .int .i64 0, .int .i64 0]) ?_ 0 _ rfl; (with_reducible repeat (first | refine blk_drewN ?_ _ | refine blk_drew ?_ | refine blk_alloc ?_ _)); exact BK523.out) hb); have n6_ := Aside0.mk (below_step (hb_ HB.out) hb); clear BK518; clear BK519; clear BK520; clear BK521; clear BK522; clear BK523; clear HB; have BK518 := n0_; have BK519 := n1_; have BK520 := n2_; have BK521 := n3_; have BK522 := n4_; have BK523 := n5_; have HB := n6_; clear n0_ n1_ n2_ n3_ n4_ n5_ n6_; (try clear hb); (try clear hb2); (try clear hk); (try clear hi); have hnb45 := NB523_519.out; have hnc45 := NB519_523.out; have hnb46 := NB523_520.out; have hnc46 := NB520_523.out; have hnb47 := NB523_521.out; have hnc47 := NB521_523.out; have hnb48 := NB523_522.out; have hnc48 := NB522_523.out; have hcz49_0 : w44.cell? ⟨gb523, 0, none⟩ = some (.int .i64 a1_0) := (blk_cell BK523.out 0).trans rfl; have hcz49_1 : w44.cell? ⟨gb523, 1, none⟩ = some (.int .i64 a1_1) := (blk_cell BK523.out 1).trans rfl; have hcz49_2 : w44.cell? ⟨gb523, 2, none⟩ = some (.int .i64 a2_0) := (blk_cell BK523.out 2).trans rfl; have hcz49_3 : w44.cell? ⟨gb523, 3, none⟩ = some (.int .i64 a2_1) := (blk_cell BK523.out 3).trans rfl; have hcz49_4 : w44.cell? ⟨gb523, 4, none⟩ = some (.int .i64 a3_0) := (blk_cell BK523.out 4).trans rfl; have hcz49_5 : w44.cell? ⟨gb523, 5, none⟩ = some (.int .i64 a3_1) := (blk_cell BK523.out 5).trans rfl; have hcz49_6 : w44.cell? ⟨gb523, 6, none⟩ = some (.int .i64 a4) := (blk_cell BK523.out 6).trans rfl; have hcz49_7 : w44.cell? ⟨gb523, 7, none⟩ = some (.int .i64 a5) := (blk_cell BK523.out 7).trans rfl; have hfz49_0 := blk_frozen BK523.out 0; have hfz49_1 := blk_frozen BK523.out 1; have hfz49_2 := blk_frozen BK523.out 2; have hfz49_3 := blk_frozen BK523.out 3; have hfz49_4 := blk_frozen BK523.out 4; have hfz49_5 := blk_frozen BK523.out 5; have hfz49_6 := blk_frozen BK523.out 6; have hfz49_7 := blk_frozen BK523.out 7) | (go_at_call 67; (with_reducible refine (lots_test_valid.calls a1_0 a1_1 a2_0 a2_1 a3_0 a3_1 a4 a5 true _ A36.out).mono ?_); rintro e w50 ⟨rfl, hb⟩; have n0_ := Aside0.mk (bkb_ BK518.out hb); have n1_ := Aside0.mk (bkb_ BK519.out hb); have n2_ := Aside0.mk (bkb_ BK520.out hb); have n3_ := Aside0.mk (bkb_ BK521.out hb); have n4_ := Aside0.mk (bkb_ BK522.out hb); have n5_ := Aside0.mk (bkb_ BK523.out hb); have n6_ := Aside0.mk (below_step (hb_ HB.out) hb); clear BK518; clear BK519; clear BK520; clear BK521; clear BK522; clear BK523; clear HB; have BK518 := n0_; have BK519 := n1_; have BK520 := n2_; have BK521 := n3_; have BK522 := n4_; have BK523 := n5_; have HB := n6_; clear n0_ n1_ n2_ n3_ n4_ n5_ n6_; (try clear hb); (try clear hb2); (try clear hk); (try clear hi)))
    go_meet
    case rel => exact ⟨_, (decide ((l0_0.length : Int) > 6)), (by first | rfl | (simp; done) | (simp [*]; done)), H', ⟨by first | omega | exact Nat.le_refl _⟩, ⟨by (with_reducible repeat (first | refine blk_drewN ?_ _ | refine blk_drew ?_ | refine blk_alloc ?_ _)); exact BK518.out⟩, ⟨by (with_reducible repeat (first | refine blk_drewN ?_ _ | refine blk_drew ?_ | refine blk_alloc ?_ _)); exact BK519.out⟩, ⟨by (with_reducible repeat (first | refine blk_drewN ?_ _ | refine blk_drew ?_ | refine blk_alloc ?_ _)); exact BK520.out⟩, ⟨by (with_reducible repeat (first | refine blk_drewN ?_ _ | refine blk_drew ?_ | refine blk_alloc ?_ _)); exact BK521.out⟩, ⟨by (with_reducible repeat (first | refine blk_drewN ?_ _ | refine blk_drew ?_ | refine blk_alloc ?_ _)); exact BK522.out⟩, ⟨by (with_reducible repeat (first | refine blk_drewN ?_ _ | refine blk_drew ?_ | refine blk_alloc ?_ _)); exact BK523.out⟩, ⟨by repeat (first | (with_reducible first | exact HB.out | apply below_alloc | apply pw_below_drewN | apply below_drew1 | refine below_set ?_ GE518.out | refine below_set ?_ GE519.out | refine below_set ?_ GE520.out | refine below_set ?_ GE521.out | refine below_set ?_ GE522.out | refine below_set ?_ GE523.out) | exact HB.out)⟩⟩
   ·replace c37 := Bool.eq_false_iff.mpr c37
    subst c37
    have H1 : (lots_Price.j0 k (l0_0.length : Int) true l0_0 l0_1 a1_0 a1_1 a2_0 a2_1 a3_0 a3_1 a4 a5) = some (r1, r2, r3) := by rw [if_neg (show ¬ (false = true) by decide)] at H; exact H
    clear H
    have H := H1
    clear H1
    have H' := Aside0.mk H
    clear H
    have hnb51 := NB518_519.out
    have hnc51 := NB519_518.out
    have hnb52 := NB518_520.out
    have hnc52 := NB520_518.out
    have hnb53 := NB518_521.out
    have hnc53 := NB521_518.out
    have hnb54 := NB518_522.out
    have hnc54 := NB522_518.out
    have hnb55 := NB518_523.out
    have hnc55 := NB523_518.out
    have hcz56_0 : w25.cell? ⟨gb518, 0, none⟩ = some (.slice A0_0 l0_0.length c0_0) := (blk_cell BK518.out 0).trans rfl
    have hcz56_1 : w25.cell? ⟨gb518, 1, none⟩ = some (.slice A0_1 l0_1.length c0_1) := (blk_cell BK518.out 1).trans rfl
    have hfz56_0 := blk_frozen BK518.out 0
    have hfz56_1 := blk_frozen BK518.out 1
    go_wp2_with (first | ((with_reducible refine gate_callee (f := 53) rfl ?_); refine goesL_ (some 29) rfl rfl Try.func53 (by kernel_rfl) rfl #[.agg #[.slice A0_0 l0_0.length c0_0, .slice A0_1 l0_1.length c0_1]] rfl al_ ?_; (with_reducible refine (lots_Plan_valid.calls k _ _ l0_0 _ _ l0_1 true _ ?side1 ?side2 ?side3 ?side4 A34.out).mono ?_); (case side1 => exact Kd.C_below HR0_0.out (hb_ HB.out)); (case side2 => exact HC0_0.out); (case side3 => exact Kd.C_below HR0_1.out (hb_ HB.out)); (case side4 => exact HC0_1.out); rintro e w57 ⟨rfl, hb⟩; refine ⟨_, rfl, ?_⟩; have n0_ := Aside0.mk (blk_below (g := gb518) (o := .cells #[.slice A0_0 l0_0.length c0_0, .slice A0_1 l0_1.length c0_1] 32 (0, 0)) (by (with_reducible repeat (first | refine blk_drewN ?_ _ | refine blk_drew ?_ | refine blk_alloc ?_ _)); refine blk_far ?_ NB518_523.out _; (with_reducible repeat (first | refine blk_drewN ?_ _ | refine blk_drew ?_ | refine blk_alloc ?_ _)); refine blk_far ?_ NB518_523.out _; (with_reducible repeat (first | refine blk_drewN ?_ _ | refine blk_drew ?_ | refine blk_alloc ?_ _)); refine blk_far ?_ NB518_523.out _; (with_reducible repeat (first | refine blk_drewN ?_ _ | refine blk_drew ?_ | refine blk_alloc ?_ _)); refine blk_far ?_ NB518_523.out _; (with_reducible repeat (first | refine blk_drewN ?_ _ | refine blk_drew ?_ | refine blk_alloc ?_ _)); refine blk_far ?_ NB518_523.out _; (with_reducible repeat (first | refine blk_drewN ?_ _ | refine blk_drew ?_ | refine blk_alloc ?_ _)); refine blk_far ?_ NB518_523.out _; (with_reducible repeat (first | refine blk_drewN ?_ _ | refine blk_drew ?_ | refine blk_alloc ?_ _)); refine blk_far ?_ NB518_523.out _; (with_reducible repeat (first | refine blk_drewN ?_ _ | refine blk_drew ?_ | refine blk_alloc ?_ _)); refine blk_far ?_ NB518_523.out _; (with_reducible repeat (first | refine blk_drewN ?_ _ | refine blk_drew ?_ | refine blk_alloc ?_ _)); exact BK518.out) hb); have n1_ := Aside0.mk (blk_below (g := gb519) (o := .cells #[.int .i64 a1_0, .int .i64 a1_1] 34 (0, 0)) (by (with_reducible repeat (first | refine blk_drewN ?_ _ | refine blk_drew ?_ | refine blk_alloc ?_ _)); refine blk_far ?_ NB519_523.out _; (with_reducible repeat (first | refine blk_drewN ?_ _ | refine blk_drew ?_ | refine blk_alloc ?_ _)); refine blk_far ?_ NB519_523.out _; (with_reducible repeat (first | refine blk_drewN ?_ _ | refine blk_drew ?_ | refine blk_alloc ?_ _)); refine blk_far ?_ NB519_523.out _; (with_reducible repeat (first | refine blk_drewN ?_ _ | refine blk_drew ?_ | refine blk_alloc ?_ _)); refine blk_far ?_ NB519_523.out _; (with_reducible repeat (first | refine blk_drewN ?_ _ | refine blk_drew ?_ | refine blk_alloc ?_ _)); refine blk_far ?_ NB519_523.out _; (with_reducible repeat (first | refine blk_drewN ?_ _ | refine blk_drew ?_ | refine blk_alloc ?_ _)); refine blk_far ?_ NB519_523.out _; (with_reducible repeat (first | refine blk_drewN ?_ _ | refine blk_drew ?_ | refine blk_alloc ?_ _)); refine blk_far ?_ NB519_523.out _; (with_reducible repeat (first | refine blk_drewN ?_ _ | refine blk_drew ?_ | refine blk_alloc ?_ _)); refine blk_far ?_ NB519_523.out _; (with_reducible repeat (first | refine blk_drewN ?_ _ | refine blk_drew ?_ | refine blk_alloc ?_ _)); exact BK519.out) hb); have n2_ := Aside0.mk (blk_below (g := gb520) (o := .cells #[.int .i64 a2_0, .int .i64 a2_1] 34 (0, 0)) (by (with_reducible repeat (first | refine blk_drewN ?_ _ | refine blk_drew ?_ | refine blk_alloc ?_ _)); refine blk_far ?_ NB520_523.out _; (with_reducible repeat (first | refine blk_drewN ?_ _ | refine blk_drew ?_ | refine blk_alloc ?_ _)); refine blk_far ?_ NB520_523.out _; (with_reducible repeat (first | refine blk_drewN ?_ _ | refine blk_drew ?_ | refine blk_alloc ?_ _)); refine blk_far ?_ NB520_523.out _; (with_reducible repeat (first | refine blk_drewN ?_ _ | refine blk_drew ?_ | refine blk_alloc ?_ _)); refine blk_far ?_ NB520_523.out _; (with_reducible repeat (first | refine blk_drewN ?_ _ | refine blk_drew ?_ | refine blk_alloc ?_ _)); refine blk_far ?_ NB520_523.out _; (with_reducible repeat (first | refine blk_drewN ?_ _ | refine blk_drew ?_ | refine blk_alloc ?_ _)); refine blk_far ?_ NB520_523.out _; (with_reducible repeat (first | refine blk_drewN ?_ _ | refine blk_drew ?_ | refine blk_alloc ?_ _)); refine blk_far ?_ NB520_523.out _; (with_reducible repeat (first | refine blk_drewN ?_ _ | refine blk_drew ?_ | refine blk_alloc ?_ _)); refine blk_far ?_ NB520_523.out _; (with_reducible repeat (first | refine blk_drewN ?_ _ | refine blk_drew ?_ | refine blk_alloc ?_ _)); exact BK520.out) hb); have n3_ := Aside0.mk (blk_below (g := gb521) (o := .cells #[.int .i64 a3_0, .int .i64 a3_1] 34 (0, 0)) (by (with_reducible repeat (first | refine blk_drewN ?_ _ | refine blk_drew ?_ | refine blk_alloc ?_ _)); refine blk_far ?_ NB521_523.out _; (with_reducible repeat (first | refine blk_drewN ?_ _ | refine blk_drew ?_ | refine blk_alloc ?_ _)); refine blk_far ?_ NB521_523.out _; (with_reducible repeat (first | refine blk_drewN ?_ _ | refine blk_drew ?_ | refine blk_alloc ?_ _)); refine blk_far ?_ NB521_523.out _; (with_reducible repeat (first | refine blk_drewN ?_ _ | refine blk_drew ?_ | refine blk_alloc ?_ _)); refine blk_far ?_ NB521_523.out _; (with_reducible repeat (first | refine blk_drewN ?_ _ | refine blk_drew ?_ | refine blk_alloc ?_ _)); refine blk_far ?_ NB521_523.out _; (with_reducible repeat (first | refine blk_drewN ?_ _ | refine blk_drew ?_ | refine blk_alloc ?_ _)); refine blk_far ?_ NB521_523.out _; (with_reducible repeat (first | refine blk_drewN ?_ _ | refine blk_drew ?_ | refine blk_alloc ?_ _)); refine blk_far ?_ NB521_523.out _; (with_reducible repeat (first | refine blk_drewN ?_ _ | refine blk_drew ?_ | refine blk_alloc ?_ _)); refine blk_far ?_ NB521_523.out _; (with_reducible repeat (first | refine blk_drewN ?_ _ | refine blk_drew ?_ | refine blk_alloc ?_ _)); exact BK521.out) hb); have n4_ := Aside0.mk (blk_below (g := gb522) (o := .cells #[.int .i64 0, .int .i64 0] 28 (0, 0)) (by (with_reducible repeat (first | refine blk_drewN ?_ _ | refine blk_drew ?_ | refine blk_alloc ?_ _)); refine blk_far ?_ NB522_523.out _; (with_reducible repeat (first | refine blk_drewN ?_ _ | refine blk_drew ?_ | refine blk_alloc ?_ _)); refine blk_far ?_ NB522_523.out _; (with_reducible repeat (first | refine blk_drewN ?_ _ | refine blk_drew ?_ | refine blk_alloc ?_ _)); refine blk_far ?_ NB522_523.out _; (with_reducible repeat (first | refine blk_drewN ?_ _ | refine blk_drew ?_ | refine blk_alloc ?_ _)); refine blk_far ?_ NB522_523.out _; (with_reducible repeat (first | refine blk_drewN ?_ _ | refine blk_drew ?_ | refine blk_alloc ?_ _)); refine blk_far ?_ NB522_523.out _; (with_reducible repeat (first | refine blk_drewN ?_ _ | refine blk_drew ?_ | refine blk_alloc ?_ _)); refine blk_far ?_ NB522_523.out _; (with_reducible repeat (first | refine blk_drewN ?_ _ | refine blk_drew ?_ | refine blk_alloc ?_ _)); refine blk_far ?_ NB522_523.out _; (with_reducible repeat (first | refine blk_drewN ?_ _ | refine blk_drew ?_ | refine blk_alloc ?_ _)); refine blk_far ?_ NB522_523.out _; (with_reducible repeat (first | refine blk_drewN ?_ _ | refine blk_drew ?_ | refine blk_alloc ?_ _)); exact BK522.out) hb); have n5_ := Aside0.mk (blk_below (g := gb523) (o := .cells #[.int .i64 a1_0, .int .i64 a1_1, .int .i64 a2_0, .int .i64 a2_1, .int .i64 a3_0, .int .i64 a3_1, .int .i64 a4, .int .i64 a5] 90 (0, 0)) (by (with_reducible repeat (first | refine blk_drewN ?_ _ | refine blk_drew ?_ | refine blk_alloc ?_ _)); refine blk_put (cs := #[.int .i64 a1_0, .int .i64 a1_1, .int .i64 a2_0, .int .i64 a2_1, .int .i64 a3_0, .int .i64 a3_1, .int .i64 a4, .int .i64 0]) ?_ 7 _ rfl; (with_reducible repeat (first | refine blk_drewN ?_ _ | refine blk_drew ?_ | refine blk_alloc ?_ _)); refine blk_put (cs := #[.int .i64 a1_0, .int .i64 a1_1, .int .i64 a2_0, .int .i64 a2_1, .int .i64 a3_0, .int .i64 a3_1, .int .i64 0, .int .i64 0]) ?_ 6 _ rfl; (with_reducible repeat (first | refine blk_drewN ?_ _ | refine blk_drew ?_ | refine blk_alloc ?_ _)); refine blk_put (cs := #[.int .i64 a1_0, .int .i64 a1_1, .int .i64 a2_0, .int .i64 a2_1, .int .i64 a3_0, .int .i64 0, .int .i64 0, .int .i64 0]) ?_ 5 _ rfl; (with_reducible repeat (first | refine blk_drewN ?_ _ | refine blk_drew ?_ | refine blk_alloc ?_ _)); refine blk_put (cs := #[.int .i64 a1_0, .int .i64 a1_1, .int .i64 a2_0, .int .i64 a2_1, .int .i64 0, .int .i64 0, .int .i64 0, .int .i64 0]) ?_ 4 _ rfl; (with_reducible repeat (first | refine blk_drewN ?_ _ | refine blk_drew ?_ | refine blk_alloc ?_ _)); refine blk_put (cs := #[.int .i64 a1_0, .int .i64 a1_1, .int .i64 a2_0, .int .i64 0, .int .i64 0, .int .i64 0, .int .i64 0, .int .i64 0]) ?_ 3 _ rfl; (with_reducible repeat (first | refine blk_drewN ?_ _ | refine blk_drew ?_ | refine blk_alloc ?_ _)); refine blk_put (cs := #[.int .i64 a1_0, .int .i64 a1_1, .int .i64 0, .int .i64 0, .int .i64 0, .int .i64 0, .int .i64 0, .int .i64 0]) ?_ 2 _ rfl; (with_reducible repeat (first | refine blk_drewN ?_ _ | refine blk_drew ?_ | refine blk_alloc ?_ _)); refine blk_put (cs := #[.int .i64 a1_0, .int .i64 0, .int .i64 0, .int .i64 0, .int .i64 0, .int .i64 0, .int .i64 0, .int .i64 0]) ?_ 1 _ rfl; (with_reducible repeat (first | refine blk_drewN ?_ _ | refine blk_drew ?_ | refine blk_alloc ?_ _)); refine blk_put (cs := #[.int .i64 0, .int .i64 0, .int .i64 0, .int .i64 0, .int .i64 0, .int .i64 0, .int .i64 0, .int .i64 0]) ?_ 0 _ rfl; (with_reducible repeat (first | refine blk_drewN ?_ _ | refine blk_drew ?_ | refine blk_alloc ?_ _)); exact BK523.out) hb); have n6_ := Aside0.mk (below_step (hb_ HB.out) hb); clear BK518; clear BK519; clear BK520; clear BK521; clear BK522; clear BK523; clear HB; have BK518 := n0_; have BK519 := n1_; have BK520 := n2_; have BK521 := n3_; have BK522 := n4_; have BK523 := n5_; have HB := n6_; clear n0_ n1_ n2_ n3_ n4_ n5_ n6_; (try clear hb); (try clear hb2); (try clear hk); (try clear hi); have hnb58 := NB523_519.out; have hnc58 := NB519_523.out; have hnb59 := NB523_520.out; have hnc59 := NB520_523.out; have hnb60 := NB523_521.out; have hnc60 := NB521_523.out; have hnb61 := NB523_522.out; have hnc61 := NB522_523.out; have hcz62_0 : w57.cell? ⟨gb523, 0, none⟩ = some (.int .i64 a1_0) := (blk_cell BK523.out 0).trans rfl; have hcz62_1 : w57.cell? ⟨gb523, 1, none⟩ = some (.int .i64 a1_1) := (blk_cell BK523.out 1).trans rfl; have hcz62_2 : w57.cell? ⟨gb523, 2, none⟩ = some (.int .i64 a2_0) := (blk_cell BK523.out 2).trans rfl; have hcz62_3 : w57.cell? ⟨gb523, 3, none⟩ = some (.int .i64 a2_1) := (blk_cell BK523.out 3).trans rfl; have hcz62_4 : w57.cell? ⟨gb523, 4, none⟩ = some (.int .i64 a3_0) := (blk_cell BK523.out 4).trans rfl; have hcz62_5 : w57.cell? ⟨gb523, 5, none⟩ = some (.int .i64 a3_1) := (blk_cell BK523.out 5).trans rfl; have hcz62_6 : w57.cell? ⟨gb523, 6, none⟩ = some (.int .i64 a4) := (blk_cell BK523.out 6).trans rfl; have hcz62_7 : w57.cell? ⟨gb523, 7, none⟩ = some (.int .i64 a5) := (blk_cell BK523.out 7).trans rfl; have hfz62_0 := blk_frozen BK523.out 0; have hfz62_1 := blk_frozen BK523.out 1; have hfz62_2 := blk_frozen BK523.out 2; have hfz62_3 := blk_frozen BK523.out 3; have hfz62_4 := blk_frozen BK523.out 4; have hfz62_5 := blk_frozen BK523.out 5; have hfz62_6 := blk_frozen BK523.out 6; have hfz62_7 := blk_frozen BK523.out 7) | (go_at_call 67; (with_reducible refine (lots_test_valid.calls a1_0 a1_1 a2_0 a2_1 a3_0 a3_1 a4 a5 false _ A36.out).mono ?_); rintro e w63 ⟨rfl, hb⟩; have n0_ := Aside0.mk (bkb_ BK518.out hb); have n1_ := Aside0.mk (bkb_ BK519.out hb); have n2_ := Aside0.mk (bkb_ BK520.out hb); have n3_ := Aside0.mk (bkb_ BK521.out hb); have n4_ := Aside0.mk (bkb_ BK522.out hb); have n5_ := Aside0.mk (bkb_ BK523.out hb); have n6_ := Aside0.mk (below_step (hb_ HB.out) hb); clear BK518; clear BK519; clear BK520; clear BK521; clear BK522; clear BK523; clear HB; have BK518 := n0_; have BK519 := n1_; have BK520 := n2_; have BK521 := n3_; have BK522 := n4_; have BK523 := n5_; have HB := n6_; clear n0_ n1_ n2_ n3_ n4_ n5_ n6_; (try clear hb); (try clear hb2); (try clear hk); (try clear hi)))
    go_meet
    case rel => exact ⟨_, (true), (by first | rfl | (simp; done) | (simp [*]; done)), H', ⟨by first | omega | exact Nat.le_refl _⟩, ⟨by (with_reducible repeat (first | refine blk_drewN ?_ _ | refine blk_drew ?_ | refine blk_alloc ?_ _)); exact BK518.out⟩, ⟨by (with_reducible repeat (first | refine blk_drewN ?_ _ | refine blk_drew ?_ | refine blk_alloc ?_ _)); exact BK519.out⟩, ⟨by (with_reducible repeat (first | refine blk_drewN ?_ _ | refine blk_drew ?_ | refine blk_alloc ?_ _)); exact BK520.out⟩, ⟨by (with_reducible repeat (first | refine blk_drewN ?_ _ | refine blk_drew ?_ | refine blk_alloc ?_ _)); exact BK521.out⟩, ⟨by (with_reducible repeat (first | refine blk_drewN ?_ _ | refine blk_drew ?_ | refine blk_alloc ?_ _)); exact BK522.out⟩, ⟨by (with_reducible repeat (first | refine blk_drewN ?_ _ | refine blk_drew ?_ | refine blk_alloc ?_ _)); exact BK523.out⟩, ⟨by repeat (first | (with_reducible first | exact HB.out | apply below_alloc | apply pw_below_drewN | apply below_drew1 | refine below_set ?_ GE518.out | refine below_set ?_ GE519.out | refine below_set ?_ GE520.out | refine below_set ?_ GE521.out | refine below_set ?_ GE522.out | refine below_set ?_ GE523.out) | exact HB.out)⟩⟩
  ·replace c35 := Bool.eq_false_iff.mpr c35
   subst c35
   have H1 : (lots_Price.j0 k (l0_0.length : Int) true l0_0 l0_1 a1_0 a1_1 a2_0 a2_1 a3_0 a3_1 a4 a5) = some (r1, r2, r3) := by rw [if_neg (show ¬ (false = true) by decide)] at H; exact H
   clear H
   have H := H1
   clear H1
   have H' := Aside0.mk H
   clear H
   have hnb64 := NB518_519.out
   have hnc64 := NB519_518.out
   have hnb65 := NB518_520.out
   have hnc65 := NB520_518.out
   have hnb66 := NB518_521.out
   have hnc66 := NB521_518.out
   have hnb67 := NB518_522.out
   have hnc67 := NB522_518.out
   have hnb68 := NB518_523.out
   have hnc68 := NB523_518.out
   have hcz69_0 : w25.cell? ⟨gb518, 0, none⟩ = some (.slice A0_0 l0_0.length c0_0) := (blk_cell BK518.out 0).trans rfl
   have hcz69_1 : w25.cell? ⟨gb518, 1, none⟩ = some (.slice A0_1 l0_1.length c0_1) := (blk_cell BK518.out 1).trans rfl
   have hfz69_0 := blk_frozen BK518.out 0
   have hfz69_1 := blk_frozen BK518.out 1
   go_wp2_with (first | ((with_reducible refine gate_callee (f := 53) rfl ?_); refine goesL_ (some 29) rfl rfl Try.func53 (by kernel_rfl) rfl #[.agg #[.slice A0_0 l0_0.length c0_0, .slice A0_1 l0_1.length c0_1]] rfl al_ ?_; (with_reducible refine (lots_Plan_valid.calls k _ _ l0_0 _ _ l0_1 false _ ?side1 ?side2 ?side3 ?side4 A34.out).mono ?_); (case side1 => exact Kd.C_below HR0_0.out (hb_ HB.out)); (case side2 => exact HC0_0.out); (case side3 => exact Kd.C_below HR0_1.out (hb_ HB.out)); (case side4 => exact HC0_1.out); rintro e w70 ⟨rfl, hb⟩; refine ⟨_, rfl, ?_⟩; have n0_ := Aside0.mk (blk_below (g := gb518) (o := .cells #[.slice A0_0 l0_0.length c0_0, .slice A0_1 l0_1.length c0_1] 32 (0, 0)) (by (with_reducible repeat (first | refine blk_drewN ?_ _ | refine blk_drew ?_ | refine blk_alloc ?_ _)); refine blk_far ?_ NB518_523.out _; (with_reducible repeat (first | refine blk_drewN ?_ _ | refine blk_drew ?_ | refine blk_alloc ?_ _)); refine blk_far ?_ NB518_523.out _; (with_reducible repeat (first | refine blk_drewN ?_ _ | refine blk_drew ?_ | refine blk_alloc ?_ _)); refine blk_far ?_ NB518_523.out _; (with_reducible repeat (first | refine blk_drewN ?_ _ | refine blk_drew ?_ | refine blk_alloc ?_ _)); refine blk_far ?_ NB518_523.out _; (with_reducible repeat (first | refine blk_drewN ?_ _ | refine blk_drew ?_ | refine blk_alloc ?_ _)); refine blk_far ?_ NB518_523.out _; (with_reducible repeat (first | refine blk_drewN ?_ _ | refine blk_drew ?_ | refine blk_alloc ?_ _)); refine blk_far ?_ NB518_523.out _; (with_reducible repeat (first | refine blk_drewN ?_ _ | refine blk_drew ?_ | refine blk_alloc ?_ _)); refine blk_far ?_ NB518_523.out _; (with_reducible repeat (first | refine blk_drewN ?_ _ | refine blk_drew ?_ | refine blk_alloc ?_ _)); refine blk_far ?_ NB518_523.out _; (with_reducible repeat (first | refine blk_drewN ?_ _ | refine blk_drew ?_ | refine blk_alloc ?_ _)); exact BK518.out) hb); have n1_ := Aside0.mk (blk_below (g := gb519) (o := .cells #[.int .i64 a1_0, .int .i64 a1_1] 34 (0, 0)) (by (with_reducible repeat (first | refine blk_drewN ?_ _ | refine blk_drew ?_ | refine blk_alloc ?_ _)); refine blk_far ?_ NB519_523.out _; (with_reducible repeat (first | refine blk_drewN ?_ _ | refine blk_drew ?_ | refine blk_alloc ?_ _)); refine blk_far ?_ NB519_523.out _; (with_reducible repeat (first | refine blk_drewN ?_ _ | refine blk_drew ?_ | refine blk_alloc ?_ _)); refine blk_far ?_ NB519_523.out _; (with_reducible repeat (first | refine blk_drewN ?_ _ | refine blk_drew ?_ | refine blk_alloc ?_ _)); refine blk_far ?_ NB519_523.out _; (with_reducible repeat (first | refine blk_drewN ?_ _ | refine blk_drew ?_ | refine blk_alloc ?_ _)); refine blk_far ?_ NB519_523.out _; (with_reducible repeat (first | refine blk_drewN ?_ _ | refine blk_drew ?_ | refine blk_alloc ?_ _)); refine blk_far ?_ NB519_523.out _; (with_reducible repeat (first | refine blk_drewN ?_ _ | refine blk_drew ?_ | refine blk_alloc ?_ _)); refine blk_far ?_ NB519_523.out _; (with_reducible repeat (first | refine blk_drewN ?_ _ | refine blk_drew ?_ | refine blk_alloc ?_ _)); refine blk_far ?_ NB519_523.out _; (with_reducible repeat (first | refine blk_drewN ?_ _ | refine blk_drew ?_ | refine blk_alloc ?_ _)); exact BK519.out) hb); have n2_ := Aside0.mk (blk_below (g := gb520) (o := .cells #[.int .i64 a2_0, .int .i64 a2_1] 34 (0, 0)) (by (with_reducible repeat (first | refine blk_drewN ?_ _ | refine blk_drew ?_ | refine blk_alloc ?_ _)); refine blk_far ?_ NB520_523.out _; (with_reducible repeat (first | refine blk_drewN ?_ _ | refine blk_drew ?_ | refine blk_alloc ?_ _)); refine blk_far ?_ NB520_523.out _; (with_reducible repeat (first | refine blk_drewN ?_ _ | refine blk_drew ?_ | refine blk_alloc ?_ _)); refine blk_far ?_ NB520_523.out _; (with_reducible repeat (first | refine blk_drewN ?_ _ | refine blk_drew ?_ | refine blk_alloc ?_ _)); refine blk_far ?_ NB520_523.out _; (with_reducible repeat (first | refine blk_drewN ?_ _ | refine blk_drew ?_ | refine blk_alloc ?_ _)); refine blk_far ?_ NB520_523.out _; (with_reducible repeat (first | refine blk_drewN ?_ _ | refine blk_drew ?_ | refine blk_alloc ?_ _)); refine blk_far ?_ NB520_523.out _; (with_reducible repeat (first | refine blk_drewN ?_ _ | refine blk_drew ?_ | refine blk_alloc ?_ _)); refine blk_far ?_ NB520_523.out _; (with_reducible repeat (first | refine blk_drewN ?_ _ | refine blk_drew ?_ | refine blk_alloc ?_ _)); refine blk_far ?_ NB520_523.out _; (with_reducible repeat (first | refine blk_drewN ?_ _ | refine blk_drew ?_ | refine blk_alloc ?_ _)); exact BK520.out) hb); have n3_ := Aside0.mk (blk_below (g := gb521) (o := .cells #[.int .i64 a3_0, .int .i64 a3_1] 34 (0, 0)) (by (with_reducible repeat (first | refine blk_drewN ?_ _ | refine blk_drew ?_ | refine blk_alloc ?_ _)); refine blk_far ?_ NB521_523.out _; (with_reducible repeat (first | refine blk_drewN ?_ _ | refine blk_drew ?_ | refine blk_alloc ?_ _)); refine blk_far ?_ NB521_523.out _; (with_reducible repeat (first | refine blk_drewN ?_ _ | refine blk_drew ?_ | refine blk_alloc ?_ _)); refine blk_far ?_ NB521_523.out _; (with_reducible repeat (first | refine blk_drewN ?_ _ | refine blk_drew ?_ | refine blk_alloc ?_ _)); refine blk_far ?_ NB521_523.out _; (with_reducible repeat (first | refine blk_drewN ?_ _ | refine blk_drew ?_ | refine blk_alloc ?_ _)); refine blk_far ?_ NB521_523.out _; (with_reducible repeat (first | refine blk_drewN ?_ _ | refine blk_drew ?_ | refine blk_alloc ?_ _)); refine blk_far ?_ NB521_523.out _; (with_reducible repeat (first | refine blk_drewN ?_ _ | refine blk_drew ?_ | refine blk_alloc ?_ _)); refine blk_far ?_ NB521_523.out _; (with_reducible repeat (first | refine blk_drewN ?_ _ | refine blk_drew ?_ | refine blk_alloc ?_ _)); refine blk_far ?_ NB521_523.out _; (with_reducible repeat (first | refine blk_drewN ?_ _ | refine blk_drew ?_ | refine blk_alloc ?_ _)); exact BK521.out) hb); have n4_ := Aside0.mk (blk_below (g := gb522) (o := .cells #[.int .i64 0, .int .i64 0] 28 (0, 0)) (by (with_reducible repeat (first | refine blk_drewN ?_ _ | refine blk_drew ?_ | refine blk_alloc ?_ _)); refine blk_far ?_ NB522_523.out _; (with_reducible repeat (first | refine blk_drewN ?_ _ | refine blk_drew ?_ | refine blk_alloc ?_ _)); refine blk_far ?_ NB522_523.out _; (with_reducible repeat (first | refine blk_drewN ?_ _ | refine blk_drew ?_ | refine blk_alloc ?_ _)); refine blk_far ?_ NB522_523.out _; (with_reducible repeat (first | refine blk_drewN ?_ _ | refine blk_drew ?_ | refine blk_alloc ?_ _)); refine blk_far ?_ NB522_523.out _; (with_reducible repeat (first | refine blk_drewN ?_ _ | refine blk_drew ?_ | refine blk_alloc ?_ _)); refine blk_far ?_ NB522_523.out _; (with_reducible repeat (first | refine blk_drewN ?_ _ | refine blk_drew ?_ | refine blk_alloc ?_ _)); refine blk_far ?_ NB522_523.out _; (with_reducible repeat (first | refine blk_drewN ?_ _ | refine blk_drew ?_ | refine blk_alloc ?_ _)); refine blk_far ?_ NB522_523.out _; (with_reducible repeat (first | refine blk_drewN ?_ _ | refine blk_drew ?_ | refine blk_alloc ?_ _)); refine blk_far ?_ NB522_523.out _; (with_reducible repeat (first | refine blk_drewN ?_ _ | refine blk_drew ?_ | refine blk_alloc ?_ _)); exact BK522.out) hb); have n5_ := Aside0.mk (blk_below (g := gb523) (o := .cells #[.int .i64 a1_0, .int .i64 a1_1, .int .i64 a2_0, .int .i64 a2_1, .int .i64 a3_0, .int .i64 a3_1, .int .i64 a4, .int .i64 a5] 90 (0, 0)) (by (with_reducible repeat (first | refine blk_drewN ?_ _ | refine blk_drew ?_ | refine blk_alloc ?_ _)); refine blk_put (cs := #[.int .i64 a1_0, .int .i64 a1_1, .int .i64 a2_0, .int .i64 a2_1, .int .i64 a3_0, .int .i64 a3_1, .int .i64 a4, .int .i64 0]) ?_ 7 _ rfl; (with_reducible repeat (first | refine blk_drewN ?_ _ | refine blk_drew ?_ | refine blk_alloc ?_ _)); refine blk_put (cs := #[.int .i64 a1_0, .int .i64 a1_1, .int .i64 a2_0, .int .i64 a2_1, .int .i64 a3_0, .int .i64 a3_1, .int .i64 0, .int .i64 0]) ?_ 6 _ rfl; (with_reducible repeat (first | refine blk_drewN ?_ _ | refine blk_drew ?_ | refine blk_alloc ?_ _)); refine blk_put (cs := #[.int .i64 a1_0, .int .i64 a1_1, .int .i64 a2_0, .int .i64 a2_1, .int .i64 a3_0, .int .i64 0, .int .i64 0, .int .i64 0]) ?_ 5 _ rfl; (with_reducible repeat (first | refine blk_drewN ?_ _ | refine blk_drew ?_ | refine blk_alloc ?_ _)); refine blk_put (cs := #[.int .i64 a1_0, .int .i64 a1_1, .int .i64 a2_0, .int .i64 a2_1, .int .i64 0, .int .i64 0, .int .i64 0, .int .i64 0]) ?_ 4 _ rfl; (with_reducible repeat (first | refine blk_drewN ?_ _ | refine blk_drew ?_ | refine blk_alloc ?_ _)); refine blk_put (cs := #[.int .i64 a1_0, .int .i64 a1_1, .int .i64 a2_0, .int .i64 0, .int .i64 0, .int .i64 0, .int .i64 0, .int .i64 0]) ?_ 3 _ rfl; (with_reducible repeat (first | refine blk_drewN ?_ _ | refine blk_drew ?_ | refine blk_alloc ?_ _)); refine blk_put (cs := #[.int .i64 a1_0, .int .i64 a1_1, .int .i64 0, .int .i64 0, .int .i64 0, .int .i64 0, .int .i64 0, .int .i64 0]) ?_ 2 _ rfl; (with_reducible repeat (first | refine blk_drewN ?_ _ | refine blk_drew ?_ | refine blk_alloc ?_ _)); refine blk_put (cs := #[.int .i64 a1_0, .int .i64 0, .int .i64 0, .int .i64 0, .int .i64 0, .int .i64 0, .int .i64 0, .int .i64 0]) ?_ 1 _ rfl; (with_reducible repeat (first | refine blk_drewN ?_ _ | refine blk_drew ?_ | refine blk_alloc ?_ _)); refine blk_put (cs := #[.int .i64 0, .int .i64 0, .int .i64 0, .int .i64 0, .int .i64 0, .int .i64 0, .int .i64 0, .int .i64 0]) ?_ 0 _ rfl; (with_reducible repeat (first | refine blk_drewN ?_ _ | refine blk_drew ?_ | refine blk_alloc ?_ _)); exact BK523.out) hb); have n6_ := Aside0.mk (below_step (hb_ HB.out) hb); clear BK518; clear BK519; clear BK520; clear BK521; clear BK522; clear BK523; clear HB; have BK518 := n0_; have BK519 := n1_; have BK520 := n2_; have BK521 := n3_; have BK522 := n4_; have BK523 := n5_; have HB := n6_; clear n0_ n1_ n2_ n3_ n4_ n5_ n6_; (try clear hb); (try clear hb2); (try clear hk); (try clear hi)))
   go_meet
   case rel => exact ⟨_, (true), (by first | rfl | (simp; done) | (simp [*]; done)), H', ⟨by first | omega | exact Nat.le_refl _⟩, ⟨by (with_reducible repeat (first | refine blk_drewN ?_ _ | refine blk_drew ?_ | refine blk_alloc ?_ _)); exact BK518.out⟩, ⟨by (with_reducible repeat (first | refine blk_drewN ?_ _ | refine blk_drew ?_ | refine blk_alloc ?_ _)); exact BK519.out⟩, ⟨by (with_reducible repeat (first | refine blk_drewN ?_ _ | refine blk_drew ?_ | refine blk_alloc ?_ _)); exact BK520.out⟩, ⟨by (with_reducible repeat (first | refine blk_drewN ?_ _ | refine blk_drew ?_ | refine blk_alloc ?_ _)); exact BK521.out⟩, ⟨by (with_reducible repeat (first | refine blk_drewN ?_ _ | refine blk_drew ?_ | refine blk_alloc ?_ _)); exact BK522.out⟩, ⟨by (with_reducible repeat (first | refine blk_drewN ?_ _ | refine blk_drew ?_ | refine blk_alloc ?_ _)); exact BK523.out⟩, ⟨by repeat (first | (with_reducible first | exact HB.out | apply below_alloc | apply pw_below_drewN | apply below_drew1 | refine below_set ?_ GE518.out | refine below_set ?_ GE519.out | refine below_set ?_ GE520.out | refine below_set ?_ GE521.out | refine below_set ?_ GE522.out | refine below_set ?_ GE523.out) | exact HB.out)⟩⟩
 case rest =>
  clear HC7
  try clear c1
  try clear c2
  try clear p2
  try clear c3
  try clear c4
  try clear c5
  try clear c6
  try clear c13
  try clear c14
  try clear c15
  try clear c16
  try clear c18
  try clear c19
  try clear c20
  try clear c22
  try clear c23
  try clear c26
  try clear c27
  try clear c28
  try clear c29
  try clear c30
  try clear c32
  try clear c35
  try clear c37
  try clear c38
  try clear c39
  try clear c40
  try clear c41
  try clear c42
  try clear c43
  try clear c45
  try clear c46
  try clear c47
  try clear c48
  try clear c51
  try clear c52
  try clear c53
  try clear c54
  try clear c55
  try clear c58
  try clear c59
  try clear c60
  try clear c61
  try clear c64
  try clear c65
  try clear c66
  try clear c67
  try clear c68
  try clear hcz17_0
  try clear hcz17_1
  try clear hcz21_0
  try clear hcz21_1
  try clear hcz24_0
  try clear hcz24_1
  try clear hcz31_0
  try clear hcz31_1
  try clear hcz31_2
  try clear hcz31_3
  try clear hcz31_4
  try clear hcz31_5
  try clear hcz31_6
  try clear hcz31_7
  try clear hcz33_0
  try clear hcz33_1
  try clear hcz43_0
  try clear hcz43_1
  try clear hcz49_0
  try clear hcz49_1
  try clear hcz49_2
  try clear hcz49_3
  try clear hcz49_4
  try clear hcz49_5
  try clear hcz49_6
  try clear hcz49_7
  try clear hcz56_0
  try clear hcz56_1
  try clear hcz62_0
  try clear hcz62_1
  try clear hcz62_2
  try clear hcz62_3
  try clear hcz62_4
  try clear hcz62_5
  try clear hcz62_6
  try clear hcz62_7
  try clear hcz69_0
  try clear hcz69_1
  try clear hfz17_0
  try clear hfz17_1
  try clear hfz21_0
  try clear hfz21_1
  try clear hfz24_0
  try clear hfz24_1
  try clear hfz31_0
  try clear hfz31_1
  try clear hfz31_2
  try clear hfz31_3
  try clear hfz31_4
  try clear hfz31_5
  try clear hfz31_6
  try clear hfz31_7
  try clear hfz33_0
  try clear hfz33_1
  try clear hfz43_0
  try clear hfz43_1
  try clear hfz49_0
  try clear hfz49_1
  try clear hfz49_2
  try clear hfz49_3
  try clear hfz49_4
  try clear hfz49_5
  try clear hfz49_6
  try clear hfz49_7
  try clear hfz56_0
  try clear hfz56_1
  try clear hfz62_0
  try clear hfz62_1
  try clear hfz62_2
  try clear hfz62_3
  try clear hfz62_4
  try clear hfz62_5
  try clear hfz62_6
  try clear hfz62_7
  try clear hfz69_0
  try clear hfz69_1
  obtain ⟨kq, x39_6, rfl, HA, HJ6, BK518, BK519, BK520, BK521, BK522, BK523, HB⟩ := hcut
  cases kq with
  | zero => exact absurd HA.out (by simp [lots_Price.j0])
  | succ kj6 =>
   have H := HA.out
   clear HA
   simp only [lots_Price.j0] at H
   by_cases c71 : x39_6 = true
   ·subst c71
    have H1 : (some (0, 0, 2)) = some (r1, r2, r3) := by rw [if_pos rfl] at H; exact H
    clear H
    have H := H1
    clear H1
    simp only [Option.some.injEq, Prod.mk.injEq] at H
    obtain ⟨rfl, rfl, rfl⟩ := H
    have hnb72 := NB522_518.out
    have hnc72 := NB518_522.out
    have hnb73 := NB522_519.out
    have hnc73 := NB519_522.out
    have hnb74 := NB522_520.out
    have hnc74 := NB520_522.out
    have hnb75 := NB522_521.out
    have hnc75 := NB521_522.out
    have hnb76 := NB522_523.out
    have hnc76 := NB523_522.out
    have hcz77_0 : wc.cell? ⟨gb522, 0, none⟩ = some (.int .i64 0) := (blk_cell BK522.out 0).trans rfl
    have hcz77_1 : wc.cell? ⟨gb522, 1, none⟩ = some (.int .i64 0) := (blk_cell BK522.out 1).trans rfl
    have hfz77_0 := blk_frozen BK522.out 0
    have hfz77_1 := blk_frozen BK522.out 1
    go_wp2
    refine bodyPost_ret (results_ct rfl _ _ gb522 28 #[.int .i64 0, .int .i64 0] (0, 0) _ rfl (by (with_reducible repeat (first | refine blk_drewN ?_ _ | refine blk_drew ?_ | refine blk_alloc ?_ _)); refine blk_put (cs := #[.int .i64 0, .int .i64 0]) ?_ 1 _ rfl; (with_reducible repeat (first | refine blk_drewN ?_ _ | refine blk_drew ?_ | refine blk_alloc ?_ _)); refine blk_put (cs := #[.int .i64 0, .int .i64 0]) ?_ 0 _ rfl; (with_reducible repeat (first | refine blk_drewN ?_ _ | refine blk_drew ?_ | refine blk_alloc ?_ _)); exact BK522.out) Try.underlying28 rfl (by kernel_rfl)) rfl ?_
    exact ⟨by first | rfl | (simp [errW_none, errW_some] <;> rfl) | (simp [*, errW_none, errW_some] <;> rfl), by repeat (first | (with_reducible first | exact HB.out | apply below_alloc | apply pw_below_drewN | apply below_drew1 | refine below_set ?_ GE518.out | refine below_set ?_ GE519.out | refine below_set ?_ GE520.out | refine below_set ?_ GE521.out | refine below_set ?_ GE522.out | refine below_set ?_ GE523.out) | exact HB.out)⟩
   ·replace c71 := Bool.eq_false_iff.mpr c71
    subst c71
    have H1 : ((lots_Plan_ends.f l0_0 l0_1).bind fun t526 => (lots_Price.l0 kj6 (l0_0.length : Int) 0 t526 (t526.length : Int) 0 a1_0 a1_1 a2_0 a2_1 a3_0 a3_1 a4 a5)) = some (r1, r2, r3) := by rw [if_neg (show ¬ (false = true) by decide)] at H; exact H
    clear H
    have H := H1
    clear H1
    replace H := Option.bind_eq_some_iff.mp H
    obtain ⟨t526, A780, H⟩ := H
    replace H : (lots_Price.l0 kj6 (l0_0.length : Int) 0 t526 (t526.length : Int) 0 a1_0 a1_1 a2_0 a2_1 a3_0 a3_1 a4 a5) = some (r1, r2, r3) := H
    have A78 := Aside0.mk A780
    clear A780
    have H' := Aside0.mk H
    clear H
    have hnb79 := NB518_519.out
    have hnc79 := NB519_518.out
    have hnb80 := NB518_520.out
    have hnc80 := NB520_518.out
    have hnb81 := NB518_521.out
    have hnc81 := NB521_518.out
    have hnb82 := NB518_522.out
    have hnc82 := NB522_518.out
    have hnb83 := NB518_523.out
    have hnc83 := NB523_518.out
    have hcz84_0 : wc.cell? ⟨gb518, 0, none⟩ = some (.slice A0_0 l0_0.length c0_0) := (blk_cell BK518.out 0).trans rfl
    have hcz84_1 : wc.cell? ⟨gb518, 1, none⟩ = some (.slice A0_1 l0_1.length c0_1) := (blk_cell BK518.out 1).trans rfl
    have hfz84_0 := blk_frozen BK518.out 0
    have hfz84_1 := blk_frozen BK518.out 1
    go_wp2_with (first | ((with_reducible refine gate_callee (f := 72) rfl ?_); refine goesL_ (some 42) rfl rfl Try.func72 (by kernel_rfl) rfl #[.agg #[.slice A0_0 l0_0.length c0_0, .slice A0_1 l0_1.length c0_1]] rfl al_ ?_; (with_reducible refine (lots_Plan_ends.calls _ _ l0_0 _ _ l0_1 t526 _ ?side1 ?side2 ?side3 ?side4 A78.out).mono ?_); (case side1 => exact kc_ (Kd.C_below HR0_0.out HB.out)); (case side2 => exact HC0_0.out); (case side3 => exact kc_ (Kd.C_below HR0_1.out HB.out)); (case side4 => exact HC0_1.out); rintro e w85 ⟨v527, rfl, ho0, hb⟩; refine ⟨_, rfl, ?_⟩; have n0_ := Aside0.mk (Kd.R_lower ho0 (below_size (hb_ HB.out))); have n1_ := Aside0.mk (bkb_ BK518.out hb); have n2_ := Aside0.mk (bkb_ BK519.out hb); have n3_ := Aside0.mk (bkb_ BK520.out hb); have n4_ := Aside0.mk (bkb_ BK521.out hb); have n5_ := Aside0.mk (bkb_ BK522.out hb); have n6_ := Aside0.mk (bkb_ BK523.out hb); have n7_ := Aside0.mk (below_step (hb_ HB.out) hb); clear BK518; clear BK519; clear BK520; clear BK521; clear BK522; clear BK523; clear HB; have HO528 := n0_; have BK518 := n1_; have BK519 := n2_; have BK520 := n3_; have BK521 := n4_; have BK522 := n5_; have BK523 := n6_; have HB := n7_; clear n0_ n1_ n2_ n3_ n4_ n5_ n6_ n7_; (try clear hb); (try clear hb2); (try clear hk); (try clear hi); (try clear ho0); obtain ⟨Ao86, co86, eo86⟩ := Kd.R_slice HO528.out; subst eo86))
    go_loopg [16, 44] kj6 (fun kq v16 v44 w' => ∃ (x16_2 : Int) (x44_2 : Int), v16 = .int .i64 x16_2 ∧ v44 = .int .i64 x44_2 ∧ Aside0 (lots_Price.l0 kq (l0_0.length : Int) x16_2 t526 (t526.length : Int) x44_2 a1_0 a1_1 a2_0 a2_1 a3_0 a3_1 a4 a5 = some (r1, r2, r3)) ∧ Aside0 (kq ≤ kj6) ∧ Aside0 (Kd.R k81 81 w' w.heap.size (fun _ => True) (.slice Ao86 t526.length co86) t526) ∧ Aside0 (w'.heap[gb518]? = some (.cells #[(.slice A0_0 l0_0.length c0_0), (.slice A0_1 l0_1.length c0_1)] 32 (0, 0))) ∧ Aside0 (w'.heap[gb519]? = some (.cells #[.int .i64 a1_0, .int .i64 a1_1] 34 (0, 0))) ∧ Aside0 (w'.heap[gb520]? = some (.cells #[.int .i64 a2_0, .int .i64 a2_1] 34 (0, 0))) ∧ Aside0 (w'.heap[gb521]? = some (.cells #[.int .i64 a3_0, .int .i64 a3_1] 34 (0, 0))) ∧ Aside0 (w'.heap[gb522]? = some (.cells #[.int .i64 0, .int .i64 0] 28 (0, 0))) ∧ Aside0 (w'.heap[gb523]? = some (.cells #[.int .i64 a1_0, .int .i64 a1_1, .int .i64 a2_0, .int .i64 a2_1, .int .i64 a3_0, .int .i64 a3_1, .int .i64 a4, .int .i64 a5] 90 (0, 0))) ∧ Aside0 (Below w.heap.size w w'))
    case atStart => exact ⟨(0), (0), (by first | rfl | (simp; done) | (simp [*]; done)), (by first | rfl | (simp; done) | (simp [*]; done)), H', ⟨Nat.le_refl _⟩, ⟨by (with_reducible repeat (first | apply Kd.R_alloc | apply Kd.R_drewN | apply Kd.R_drew)); exact HO528.out⟩, ⟨by (with_reducible repeat (first | refine blk_drewN ?_ _ | refine blk_drew ?_ | refine blk_alloc ?_ _)); exact BK518.out⟩, ⟨by (with_reducible repeat (first | refine blk_drewN ?_ _ | refine blk_drew ?_ | refine blk_alloc ?_ _)); exact BK519.out⟩, ⟨by (with_reducible repeat (first | refine blk_drewN ?_ _ | refine blk_drew ?_ | refine blk_alloc ?_ _)); exact BK520.out⟩, ⟨by (with_reducible repeat (first | refine blk_drewN ?_ _ | refine blk_drew ?_ | refine blk_alloc ?_ _)); exact BK521.out⟩, ⟨by (with_reducible repeat (first | refine blk_drewN ?_ _ | refine blk_drew ?_ | refine blk_alloc ?_ _)); exact BK522.out⟩, ⟨by (with_reducible repeat (first | refine blk_drewN ?_ _ | refine blk_drew ?_ | refine blk_alloc ?_ _)); exact BK523.out⟩, ⟨by repeat (first | (with_reducible first | exact HB.out | apply below_alloc | apply pw_below_drewN | apply below_drew1 | refine below_set ?_ GE518.out | refine below_set ?_ GE519.out | refine below_set ?_ GE520.out | refine below_set ?_ GE521.out | refine below_set ?_ GE522.out | refine below_set ?_ GE523.out) | exact HB.out)⟩⟩
    case round =>
     clear H'
     try clear c1
     try clear c2
     try clear p2
     try clear c3
     try clear c4
     try clear c5
     try clear c6
     try clear c7
     try clear c8
     try clear c13
     try clear c14
     try clear c15
     try clear c16
     try clear c18
     try clear c19
     try clear c20
     try clear c22
     try clear c23
     try clear c26
     try clear c27
     try clear c28
     try clear c29
     try clear c30
     try clear c32
     try clear c35
     try clear c37
     try clear c38
     try clear c39
     try clear c40
     try clear c41
     try clear c42
     try clear c43
     try clear c45
     try clear c46
     try clear c47
     try clear c48
     try clear c51
     try clear c52
     try clear c53
     try clear c54
     try clear c55
     try clear c58
     try clear c59
     try clear c60
     try clear c61
     try clear c64
     try clear c65
     try clear c66
     try clear c67
     try clear c68
     try clear c71
     try clear c72
     try clear c73
     try clear c74
     try clear c75
     try clear c76
     try clear c79
     try clear c80
     try clear c81
     try clear c82
     try clear c83
     try clear hcz17_0
     try clear hcz17_1
     try clear hcz21_0
     try clear hcz21_1
     try clear hcz24_0
     try clear hcz24_1
     try clear hcz31_0
     try clear hcz31_1
     try clear hcz31_2
     try clear hcz31_3
     try clear hcz31_4
     try clear hcz31_5
     try clear hcz31_6
     try clear hcz31_7
     try clear hcz33_0
     try clear hcz33_1
     try clear hcz43_0
     try clear hcz43_1
     try clear hcz49_0
     try clear hcz49_1
     try clear hcz49_2
     try clear hcz49_3
     try clear hcz49_4
     try clear hcz49_5
     try clear hcz49_6
     try clear hcz49_7
     try clear hcz56_0
     try clear hcz56_1
     try clear hcz62_0
     try clear hcz62_1
     try clear hcz62_2
     try clear hcz62_3
     try clear hcz62_4
     try clear hcz62_5
     try clear hcz62_6
     try clear hcz62_7
     try clear hcz69_0
     try clear hcz69_1
     try clear hcz77_0
     try clear hcz77_1
     try clear hcz84_0
     try clear hcz84_1
     try clear hfz17_0
     try clear hfz17_1
     try clear hfz21_0
     try clear hfz21_1
     try clear hfz24_0
     try clear hfz24_1
     try clear hfz31_0
     try clear hfz31_1
     try clear hfz31_2
     try clear hfz31_3
     try clear hfz31_4
     try clear hfz31_5
     try clear hfz31_6
     try clear hfz31_7
     try clear hfz33_0
     try clear hfz33_1
     try clear hfz43_0
     try clear hfz43_1
     try clear hfz49_0
     try clear hfz49_1
     try clear hfz49_2
     try clear hfz49_3
     try clear hfz49_4
     try clear hfz49_5
     try clear hfz49_6
     try clear hfz49_7
     try clear hfz56_0
     try clear hfz56_1
     try clear hfz62_0
     try clear hfz62_1
     try clear hfz62_2
     try clear hfz62_3
     try clear hfz62_4
     try clear hfz62_5
     try clear hfz62_6
     try clear hfz62_7
     try clear hfz69_0
     try clear hfz69_1
     try clear hfz77_0
     try clear hfz77_1
     try clear hfz84_0
     try clear hfz84_1
     try clear p2
     obtain ⟨x16_2, x44_2, rfl, rfl, HA, HK2, HO_42, BK518, BK519, BK520, BK521, BK522, BK523, HB⟩ := hrel
     cases gk with
     | zero => exact absurd HA.out (by simp [lots_Price.l0])
     | succ k2 =>
      have H := HA.out
      clear HA
      simp only [lots_Price.l0] at H
      by_cases c87 : x44_2 < (t526.length : Int)
      ·rw [if_pos c87] at H
       have c87b0 : decide (x44_2 < (t526.length : Int)) = true := decide_eq_true c87
       clear c87
       by_cases c88 : 0 ≤ x44_2
       ·rw [if_pos c88] at H
        have c88b0 : decide (0 ≤ x44_2) = true := decide_eq_true c88
        clear c88
        by_cases c89 : x44_2 < (t526.length : Int)
        ·rw [if_pos c89] at H
         have c89b0 : decide (x44_2 < (t526.length : Int)) = true := decide_eq_true c89
         clear c89
         replace H := Option.bind_eq_some_iff.mp H
         obtain ⟨t531, A900, H⟩ := H
         replace H : (lots_Price.l0 k2 (l0_0.length : Int) (wrap64 (x16_2 + (wrap64 (((rd_T81 t526 x44_2).f3) * t531)))) t526 (t526.length : Int) (wrap64 (x44_2 + 1)) a1_0 a1_1 a2_0 a2_1 a3_0 a3_1 a4 a5) = some (r1, r2, r3) := H
         have A90 := Aside0.mk A900
         clear A900
         have H' := Aside0.mk H
         clear H
         have p529 : 0 ≤ (x44_2 : Int) := of_decide_eq_true (by first | (with_reducible assumption) | assumption)
         have q529 : x44_2 < (t526.length : Int) := of_decide_eq_true (by first | (with_reducible assumption) | assumption)
         obtain ⟨ad529, e529, hx529_0, hx529_1, hx529_2, hx529_3⟩ := at_T81 (Kd.R_reads' HO_42.out).2.2 x44_2 p529 q529
         cases e529
         replace p529 := eq_true p529
         replace q529 := eq_true q529
         try go_wp2_with (first | ((with_reducible refine gate_dst (N := 18) rfl ?_); refine box_event ?hg (N := 18) ?hd (cs := #[.int .i64 0, .int .i64 0, .int .i64 0, .int .i64 0]) (t := 81) ?hr ?_; (case hd => rfl); (case hg => rfl); (case hr => first | (go_simp; done) | (go_simp; rfl)); intro gb530 hg w91 hbox hb; have n0_ := Aside0.mk (Kd.R_below (Kd.R_elderB (kr_ (HO_42.out)) gb530 (Nat.le_of_eq hg.symm)) hb); have n1_ := Aside0.mk (bkb_ BK518.out hb); have n2_ := Aside0.mk (bkb_ BK519.out hb); have n3_ := Aside0.mk (bkb_ BK520.out hb); have n4_ := Aside0.mk (bkb_ BK521.out hb); have n5_ := Aside0.mk (bkb_ BK522.out hb); have n6_ := Aside0.mk (bkb_ BK523.out hb); have n7_ := Aside0.mk (below_step (hb_ HB.out) hb); have n8_ := Aside0.mk (hbox); have n9_ := Aside0.mk ((by rw [hg]; exact (below_size (hb_ HB.out)) : w.heap.size ≤ gb530)); have n10_ := Aside0.mk ((by rw [hg]; exact (below_size (hb_ HB.out)) : w.heap.size ≤ gb530)); have n11_ := Aside0.mk ((by rw [hg]; exact Nat.ne_of_lt (bkl_ BK518.out) : gb518 ≠ gb530)); have n12_ := Aside0.mk ((by rw [hg]; exact Nat.ne_of_gt (bkl_ BK518.out) : gb530 ≠ gb518)); have n13_ := Aside0.mk ((by rw [hg]; exact Nat.ne_of_lt (bkl_ BK519.out) : gb519 ≠ gb530)); have n14_ := Aside0.mk ((by rw [hg]; exact Nat.ne_of_gt (bkl_ BK519.out) : gb530 ≠ gb519)); have n15_ := Aside0.mk ((by rw [hg]; exact Nat.ne_of_lt (bkl_ BK520.out) : gb520 ≠ gb530)); have n16_ := Aside0.mk ((by rw [hg]; exact Nat.ne_of_gt (bkl_ BK520.out) : gb530 ≠ gb520)); have n17_ := Aside0.mk ((by rw [hg]; exact Nat.ne_of_lt (bkl_ BK521.out) : gb521 ≠ gb530)); have n18_ := Aside0.mk ((by rw [hg]; exact Nat.ne_of_gt (bkl_ BK521.out) : gb530 ≠ gb521)); have n19_ := Aside0.mk ((by rw [hg]; exact Nat.ne_of_lt (bkl_ BK522.out) : gb522 ≠ gb530)); have n20_ := Aside0.mk ((by rw [hg]; exact Nat.ne_of_gt (bkl_ BK522.out) : gb530 ≠ gb522)); have n21_ := Aside0.mk ((by rw [hg]; exact Nat.ne_of_lt (bkl_ BK523.out) : gb523 ≠ gb530)); have n22_ := Aside0.mk ((by rw [hg]; exact Nat.ne_of_gt (bkl_ BK523.out) : gb530 ≠ gb523)); clear HO_42; clear BK518; clear BK519; clear BK520; clear BK521; clear BK522; clear BK523; clear HB; have HO_42 := n0_; have BK518 := n1_; have BK519 := n2_; have BK520 := n3_; have BK521 := n4_; have BK522 := n5_; have BK523 := n6_; have HB := n7_; have BK530 := n8_; have GW530 := n9_; have GE530 := n10_; have NB518_530 := n11_; have NB530_518 := n12_; have NB519_530 := n13_; have NB530_519 := n14_; have NB520_530 := n15_; have NB530_520 := n16_; have NB521_530 := n17_; have NB530_521 := n18_; have NB522_530 := n19_; have NB530_522 := n20_; have NB523_530 := n21_; have NB530_523 := n22_; clear n0_ n1_ n2_ n3_ n4_ n5_ n6_ n7_ n8_ n9_ n10_ n11_ n12_ n13_ n14_ n15_ n16_ n17_ n18_ n19_ n20_ n21_ n22_; clear hb hbox hg; have hnb92 := NB530_518.out; have hnc92 := NB518_530.out; have hnb93 := NB530_519.out; have hnc93 := NB519_530.out; have hnb94 := NB530_520.out; have hnc94 := NB520_530.out; have hnb95 := NB530_521.out; have hnc95 := NB521_530.out; have hnb96 := NB530_522.out; have hnc96 := NB522_530.out; have hnb97 := NB530_523.out; have hnc97 := NB523_530.out; have hcz98_0 : w91.cell? ⟨gb530, 0, none⟩ = some (.int .i64 0) := (blk_cell BK530.out 0).trans rfl; have hcz98_1 : w91.cell? ⟨gb530, 1, none⟩ = some (.int .i64 0) := (blk_cell BK530.out 1).trans rfl; have hcz98_2 : w91.cell? ⟨gb530, 2, none⟩ = some (.int .i64 0) := (blk_cell BK530.out 2).trans rfl; have hcz98_3 : w91.cell? ⟨gb530, 3, none⟩ = some (.int .i64 0) := (blk_cell BK530.out 3).trans rfl; have hfz98_0 := blk_frozen BK530.out 0; have hfz98_1 := blk_frozen BK530.out 1; have hfz98_2 := blk_frozen BK530.out 2; have hfz98_3 := blk_frozen BK530.out 3))
         have n0_ : Aside0 (Kd.R k81 81 ((((w91.setCell ⟨gb530, 0, none⟩ (.int .i64 ((rd_T81 t526 x44_2).f0))).setCell ⟨gb530, 1, none⟩ (.int .i64 ((rd_T81 t526 x44_2).f1))).setCell ⟨gb530, 2, none⟩ (.int .i64 ((rd_T81 t526 x44_2).f2))).setCell ⟨gb530, 3, none⟩ (.int .i64 ((rd_T81 t526 x44_2).f3))) w.heap.size (fun k_ => k_ ≠ gb530) (.slice (some ad529) t526.length co86) t526) := ⟨by (with_reducible repeat (first | apply Kd.R_alloc | apply Kd.R_drewN | apply Kd.R_drew)); exact Kd.R_mono (Kd.R_far (p := ⟨gb530, 3, none⟩) (Kd.R_far (p := ⟨gb530, 2, none⟩) (Kd.R_far (p := ⟨gb530, 1, none⟩) (Kd.R_far (p := ⟨gb530, 0, none⟩) (Kd.R_mono HO_42.out (fun k_ hk => (⟨hk, hk.2⟩ : _ ∧ k_ ≠ gb530))) (fun _ hk => hk.2) (.int .i64 ((rd_T81 t526 x44_2).f0))) (fun _ hk => hk.2) (.int .i64 ((rd_T81 t526 x44_2).f1))) (fun _ hk => hk.2) (.int .i64 ((rd_T81 t526 x44_2).f2))) (fun _ hk => hk.2) (.int .i64 ((rd_T81 t526 x44_2).f3))) (fun _ hk => hk.1.2)⟩
         have n1_ : Aside0 (((((w91.setCell ⟨gb530, 0, none⟩ (.int .i64 ((rd_T81 t526 x44_2).f0))).setCell ⟨gb530, 1, none⟩ (.int .i64 ((rd_T81 t526 x44_2).f1))).setCell ⟨gb530, 2, none⟩ (.int .i64 ((rd_T81 t526 x44_2).f2))).setCell ⟨gb530, 3, none⟩ (.int .i64 ((rd_T81 t526 x44_2).f3))).heap[gb518]? = some (.cells #[.slice A0_0 l0_0.length c0_0, .slice A0_1 l0_1.length c0_1] 32 (0, 0))) := ⟨by (with_reducible repeat (first | refine blk_drewN ?_ _ | refine blk_drew ?_ | refine blk_alloc ?_ _)); refine blk_far ?_ NB518_530.out _; (with_reducible repeat (first | refine blk_drewN ?_ _ | refine blk_drew ?_ | refine blk_alloc ?_ _)); refine blk_far ?_ NB518_530.out _; (with_reducible repeat (first | refine blk_drewN ?_ _ | refine blk_drew ?_ | refine blk_alloc ?_ _)); refine blk_far ?_ NB518_530.out _; (with_reducible repeat (first | refine blk_drewN ?_ _ | refine blk_drew ?_ | refine blk_alloc ?_ _)); refine blk_far ?_ NB518_530.out _; (with_reducible repeat (first | refine blk_drewN ?_ _ | refine blk_drew ?_ | refine blk_alloc ?_ _)); exact BK518.out⟩
         have n2_ : Aside0 (((((w91.setCell ⟨gb530, 0, none⟩ (.int .i64 ((rd_T81 t526 x44_2).f0))).setCell ⟨gb530, 1, none⟩ (.int .i64 ((rd_T81 t526 x44_2).f1))).setCell ⟨gb530, 2, none⟩ (.int .i64 ((rd_T81 t526 x44_2).f2))).setCell ⟨gb530, 3, none⟩ (.int .i64 ((rd_T81 t526 x44_2).f3))).heap[gb519]? = some (.cells #[.int .i64 a1_0, .int .i64 a1_1] 34 (0, 0))) := ⟨by (with_reducible repeat (first | refine blk_drewN ?_ _ | refine blk_drew ?_ | refine blk_alloc ?_ _)); refine blk_far ?_ NB519_530.out _; (with_reducible repeat (first | refine blk_drewN ?_ _ | refine blk_drew ?_ | refine blk_alloc ?_ _)); refine blk_far ?_ NB519_530.out _; (with_reducible repeat (first | refine blk_drewN ?_ _ | refine blk_drew ?_ | refine blk_alloc ?_ _)); refine blk_far ?_ NB519_530.out _; (with_reducible repeat (first | refine blk_drewN ?_ _ | refine blk_drew ?_ | refine blk_alloc ?_ _)); refine blk_far ?_ NB519_530.out _; (with_reducible repeat (first | refine blk_drewN ?_ _ | refine blk_drew ?_ | refine blk_alloc ?_ _)); exact BK519.out⟩
         have n3_ : Aside0 (((((w91.setCell ⟨gb530, 0, none⟩ (.int .i64 ((rd_T81 t526 x44_2).f0))).setCell ⟨gb530, 1, none⟩ (.int .i64 ((rd_T81 t526 x44_2).f1))).setCell ⟨gb530, 2, none⟩ (.int .i64 ((rd_T81 t526 x44_2).f2))).setCell ⟨gb530, 3, none⟩ (.int .i64 ((rd_T81 t526 x44_2).f3))).heap[gb520]? = some (.cells #[.int .i64 a2_0, .int .i64 a2_1] 34 (0, 0))) := ⟨by (with_reducible repeat (first | refine blk_drewN ?_ _ | refine blk_drew ?_ | refine blk_alloc ?_ _)); refine blk_far ?_ NB520_530.out _; (with_reducible repeat (first | refine blk_drewN ?_ _ | refine blk_drew ?_ | refine blk_alloc ?_ _)); refine blk_far ?_ NB520_530.out _; (with_reducible repeat (first | refine blk_drewN ?_ _ | refine blk_drew ?_ | refine blk_alloc ?_ _)); refine blk_far ?_ NB520_530.out _; (with_reducible repeat (first | refine blk_drewN ?_ _ | refine blk_drew ?_ | refine blk_alloc ?_ _)); refine blk_far ?_ NB520_530.out _; (with_reducible repeat (first | refine blk_drewN ?_ _ | refine blk_drew ?_ | refine blk_alloc ?_ _)); exact BK520.out⟩
         have n4_ : Aside0 (((((w91.setCell ⟨gb530, 0, none⟩ (.int .i64 ((rd_T81 t526 x44_2).f0))).setCell ⟨gb530, 1, none⟩ (.int .i64 ((rd_T81 t526 x44_2).f1))).setCell ⟨gb530, 2, none⟩ (.int .i64 ((rd_T81 t526 x44_2).f2))).setCell ⟨gb530, 3, none⟩ (.int .i64 ((rd_T81 t526 x44_2).f3))).heap[gb521]? = some (.cells #[.int .i64 a3_0, .int .i64 a3_1] 34 (0, 0))) := ⟨by (with_reducible repeat (first | refine blk_drewN ?_ _ | refine blk_drew ?_ | refine blk_alloc ?_ _)); refine blk_far ?_ NB521_530.out _; (with_reducible repeat (first | refine blk_drewN ?_ _ | refine blk_drew ?_ | refine blk_alloc ?_ _)); refine blk_far ?_ NB521_530.out _; (with_reducible repeat (first | refine blk_drewN ?_ _ | refine blk_drew ?_ | refine blk_alloc ?_ _)); refine blk_far ?_ NB521_530.out _; (with_reducible repeat (first | refine blk_drewN ?_ _ | refine blk_drew ?_ | refine blk_alloc ?_ _)); refine blk_far ?_ NB521_530.out _; (with_reducible repeat (first | refine blk_drewN ?_ _ | refine blk_drew ?_ | refine blk_alloc ?_ _)); exact BK521.out⟩
         have n5_ : Aside0 (((((w91.setCell ⟨gb530, 0, none⟩ (.int .i64 ((rd_T81 t526 x44_2).f0))).setCell ⟨gb530, 1, none⟩ (.int .i64 ((rd_T81 t526 x44_2).f1))).setCell ⟨gb530, 2, none⟩ (.int .i64 ((rd_T81 t526 x44_2).f2))).setCell ⟨gb530, 3, none⟩ (.int .i64 ((rd_T81 t526 x44_2).f3))).heap[gb522]? = some (.cells #[.int .i64 0, .int .i64 0] 28 (0, 0))) := ⟨by (with_reducible repeat (first | refine blk_drewN ?_ _ | refine blk_drew ?_ | refine blk_alloc ?_ _)); refine blk_far ?_ NB522_530.out _; (with_reducible repeat (first | refine blk_drewN ?_ _ | refine blk_drew ?_ | refine blk_alloc ?_ _)); refine blk_far ?_ NB522_530.out _; (with_reducible repeat (first | refine blk_drewN ?_ _ | refine blk_drew ?_ | refine blk_alloc ?_ _)); refine blk_far ?_ NB522_530.out _; (with_reducible repeat (first | refine blk_drewN ?_ _ | refine blk_drew ?_ | refine blk_alloc ?_ _)); refine blk_far ?_ NB522_530.out _; (with_reducible repeat (first | refine blk_drewN ?_ _ | refine blk_drew ?_ | refine blk_alloc ?_ _)); exact BK522.out⟩
         have n6_ : Aside0 (((((w91.setCell ⟨gb530, 0, none⟩ (.int .i64 ((rd_T81 t526 x44_2).f0))).setCell ⟨gb530, 1, none⟩ (.int .i64 ((rd_T81 t526 x44_2).f1))).setCell ⟨gb530, 2, none⟩ (.int .i64 ((rd_T81 t526 x44_2).f2))).setCell ⟨gb530, 3, none⟩ (.int .i64 ((rd_T81 t526 x44_2).f3))).heap[gb523]? = some (.cells #[.int .i64 a1_0, .int .i64 a1_1, .int .i64 a2_0, .int .i64 a2_1, .int .i64 a3_0, .int .i64 a3_1, .int .i64 a4, .int .i64 a5] 90 (0, 0))) := ⟨by (with_reducible repeat (first | refine blk_drewN ?_ _ | refine blk_drew ?_ | refine blk_alloc ?_ _)); refine blk_far ?_ NB523_530.out _; (with_reducible repeat (first | refine blk_drewN ?_ _ | refine blk_drew ?_ | refine blk_alloc ?_ _)); refine blk_far ?_ NB523_530.out _; (with_reducible repeat (first | refine blk_drewN ?_ _ | refine blk_drew ?_ | refine blk_alloc ?_ _)); refine blk_far ?_ NB523_530.out _; (with_reducible repeat (first | refine blk_drewN ?_ _ | refine blk_drew ?_ | refine blk_alloc ?_ _)); refine blk_far ?_ NB523_530.out _; (with_reducible repeat (first | refine blk_drewN ?_ _ | refine blk_drew ?_ | refine blk_alloc ?_ _)); exact BK523.out⟩
         have n7_ : Aside0 (((((w91.setCell ⟨gb530, 0, none⟩ (.int .i64 ((rd_T81 t526 x44_2).f0))).setCell ⟨gb530, 1, none⟩ (.int .i64 ((rd_T81 t526 x44_2).f1))).setCell ⟨gb530, 2, none⟩ (.int .i64 ((rd_T81 t526 x44_2).f2))).setCell ⟨gb530, 3, none⟩ (.int .i64 ((rd_T81 t526 x44_2).f3))).heap[gb530]? = some (.cells #[.int .i64 ((rd_T81 t526 x44_2).f0), .int .i64 ((rd_T81 t526 x44_2).f1), .int .i64 ((rd_T81 t526 x44_2).f2), .int .i64 ((rd_T81 t526 x44_2).f3)] 81 (0, 0))) := ⟨by (with_reducible repeat (first | refine blk_drewN ?_ _ | refine blk_drew ?_ | refine blk_alloc ?_ _)); refine blk_put (cs := #[.int .i64 ((rd_T81 t526 x44_2).f0), .int .i64 ((rd_T81 t526 x44_2).f1), .int .i64 ((rd_T81 t526 x44_2).f2), .int .i64 0]) ?_ 3 _ rfl; (with_reducible repeat (first | refine blk_drewN ?_ _ | refine blk_drew ?_ | refine blk_alloc ?_ _)); refine blk_put (cs := #[.int .i64 ((rd_T81 t526 x44_2).f0), .int .i64 ((rd_T81 t526 x44_2).f1), .int .i64 0, .int .i64 0]) ?_ 2 _ rfl; (with_reducible repeat (first | refine blk_drewN ?_ _ | refine blk_drew ?_ | refine blk_alloc ?_ _)); refine blk_put (cs := #[.int .i64 ((rd_T81 t526 x44_2).f0), .int .i64 0, .int .i64 0, .int .i64 0]) ?_ 1 _ rfl; (with_reducible repeat (first | refine blk_drewN ?_ _ | refine blk_drew ?_ | refine blk_alloc ?_ _)); refine blk_put (cs := #[.int .i64 0, .int .i64 0, .int .i64 0, .int .i64 0]) ?_ 0 _ rfl; (with_reducible repeat (first | refine blk_drewN ?_ _ | refine blk_drew ?_ | refine blk_alloc ?_ _)); exact BK530.out⟩
         have n8_ : Aside0 (Below w.heap.size w ((((w91.setCell ⟨gb530, 0, none⟩ (.int .i64 ((rd_T81 t526 x44_2).f0))).setCell ⟨gb530, 1, none⟩ (.int .i64 ((rd_T81 t526 x44_2).f1))).setCell ⟨gb530, 2, none⟩ (.int .i64 ((rd_T81 t526 x44_2).f2))).setCell ⟨gb530, 3, none⟩ (.int .i64 ((rd_T81 t526 x44_2).f3)))) := ⟨by repeat (first | (with_reducible first | exact HB.out | apply below_alloc | apply pw_below_drewN | apply below_drew1 | refine below_set ?_ GE518.out | refine below_set ?_ GE519.out | refine below_set ?_ GE520.out | refine below_set ?_ GE521.out | refine below_set ?_ GE522.out | refine below_set ?_ GE523.out | refine below_set ?_ GE530.out) | exact HB.out)⟩
         (try clear HO_42)
         (try clear BK518)
         (try clear BK519)
         (try clear BK520)
         (try clear BK521)
         (try clear BK522)
         (try clear BK523)
         (try clear BK530)
         (try clear HB)
         generalize ((((w91.setCell ⟨gb530, 0, none⟩ (.int .i64 ((rd_T81 t526 x44_2).f0))).setCell ⟨gb530, 1, none⟩ (.int .i64 ((rd_T81 t526 x44_2).f1))).setCell ⟨gb530, 2, none⟩ (.int .i64 ((rd_T81 t526 x44_2).f2))).setCell ⟨gb530, 3, none⟩ (.int .i64 ((rd_T81 t526 x44_2).f3))) = w99 at n0_ n1_ n2_ n3_ n4_ n5_ n6_ n7_ n8_ ⊢
         have HO_42 := n0_
         have BK518 := n1_
         have BK519 := n2_
         have BK520 := n3_
         have BK521 := n4_
         have BK522 := n5_
         have BK523 := n6_
         have BK530 := n7_
         have HB := n8_
         clear n0_ n1_ n2_ n3_ n4_ n5_ n6_ n7_ n8_
         have n0_ := Aside0.mk (Kd.R_drew HO_42.out)
         have n1_ := Aside0.mk (blk_drew BK518.out)
         have n2_ := Aside0.mk (blk_drew BK519.out)
         have n3_ := Aside0.mk (blk_drew BK520.out)
         have n4_ := Aside0.mk (blk_drew BK521.out)
         have n5_ := Aside0.mk (blk_drew BK522.out)
         have n6_ := Aside0.mk (blk_drew BK523.out)
         have n7_ := Aside0.mk (blk_drew BK530.out)
         have n8_ := Aside0.mk (below_drew1 HB.out)
         clear HO_42
         clear BK518
         clear BK519
         clear BK520
         clear BK521
         clear BK522
         clear BK523
         clear BK530
         clear HB
         have HO_42 := n0_
         have BK518 := n1_
         have BK519 := n2_
         have BK520 := n3_
         have BK521 := n4_
         have BK522 := n5_
         have BK523 := n6_
         have BK530 := n7_
         have HB := n8_
         clear n0_ n1_ n2_ n3_ n4_ n5_ n6_ n7_ n8_
         refine start_ (n := 10) (S := fun w' => w'.cell? ⟨gb530, 0, none⟩ = some (.int .i64 ((rd_T81 t526 x44_2).f0)) ∧ w'.cell? ⟨gb530, 1, none⟩ = some (.int .i64 ((rd_T81 t526 x44_2).f1)) ∧ w'.cell? ⟨gb530, 2, none⟩ = some (.int .i64 ((rd_T81 t526 x44_2).f2)) ∧ w'.cell? ⟨gb530, 3, none⟩ = some (.int .i64 ((rd_T81 t526 x44_2).f3)) ∧ w'.cell? ⟨gb523, 0, none⟩ = some (.int .i64 a1_0) ∧ w'.cell? ⟨gb523, 1, none⟩ = some (.int .i64 a1_1) ∧ w'.cell? ⟨gb523, 2, none⟩ = some (.int .i64 a2_0) ∧ w'.cell? ⟨gb523, 3, none⟩ = some (.int .i64 a2_1) ∧ w'.cell? ⟨gb523, 4, none⟩ = some (.int .i64 a3_0) ∧ w'.cell? ⟨gb523, 5, none⟩ = some (.int .i64 a3_1) ∧ w'.cell? ⟨gb523, 6, none⟩ = some (.int .i64 a4) ∧ w'.cell? ⟨gb523, 7, none⟩ = some (.int .i64 a5)) (ds := []) #[false, false, false, false, false, false, false, false, false, false] (by kernel_rfl) rfl rfl ⟨(blk_cell BK530.out 0).trans rfl, (blk_cell BK530.out 1).trans rfl, (blk_cell BK530.out 2).trans rfl, (blk_cell BK530.out 3).trans rfl, (blk_cell BK523.out 0).trans rfl, (blk_cell BK523.out 1).trans rfl, (blk_cell BK523.out 2).trans rfl, (blk_cell BK523.out 3).trans rfl, (blk_cell BK523.out 4).trans rfl, (blk_cell BK523.out 5).trans rfl, (blk_cell BK523.out 6).trans rfl, (blk_cell BK523.out 7).trans rfl⟩ (fun hHeld => ?_); refine with_tabW lots_Price.tab9 lots_Price.bits9 (fun HT_ HW_ => ?_)
         generalize w99.drew = w100 at HO_42 BK518 BK519 BK520 BK521 BK522 BK523 BK530 HB hHeld ⊢
         refine pure_ (i := 0) (N := some 48) (v := ?_) (a' := ?_) #[true, false, false, false, false, false, false, false, false, false] rfl rfl (any_of HT_.out (by kernel_rfl)) (fun _ _ _ h => h) (Or.inl ⟨by rfl, ?_⟩) ?_ ?_
         rotate_left
         ·intro w'
          go_simp
          with_reducible rfl
         rotate_left
         ·simp only [Act.put, List.setIfInBounds_toArray, List.set_cons_zero, List.set_cons_succ, i64_w, i32_w]
          rfl
         refine pure_ (i := 1) (N := some 49) (v := ?_) (a' := ?_) #[true, true, false, false, false, false, false, false, false, false] rfl rfl (any_of HT_.out (by kernel_rfl)) (fun _ _ _ h => h) (Or.inl ⟨by rfl, ?_⟩) ?_ ?_
         rotate_left
         ·intro w'
          go_simp
          with_reducible rfl
         rotate_left
         ·simp only [Act.put, List.setIfInBounds_toArray, List.set_cons_zero, List.set_cons_succ, i64_w, i32_w]
          rfl
         refine pure_ (i := 5) (N := some 53) (v := ?_) (a' := ?_) #[true, true, false, false, false, true, false, false, false, false] rfl rfl (any_of HT_.out (by kernel_rfl)) (fun _ _ _ h => h) (Or.inl ⟨by rfl, ?_⟩) ?_ ?_
         rotate_left
         ·intro w'
          go_simp
          with_reducible rfl
         rotate_left
         ·simp only [Act.put, List.setIfInBounds_toArray, List.set_cons_zero, List.set_cons_succ, i64_w, i32_w]
          rfl
         refine take_ (i := 2) (N := some 50) (v := ?_) (a' := ?_) #[true, true, true, false, false, true, false, false, false, false] rfl rfl (take_ofW HT_.out HW_.out (by kernel_rfl)) (fun _ _ _ h => h) (Or.inl ⟨by rfl, ?_⟩) hHeld ?_ ?_
         rotate_left
         ·rintro w' ⟨s0, s1, s2, s3, s4, s5, s6, s7, s8, s9, s10, s11⟩
          go_simp
          with_reducible rfl
         rotate_left
         ·simp only [Act.put, List.setIfInBounds_toArray, List.set_cons_zero, List.set_cons_succ, i64_w, i32_w]
          rfl
         refine take_ (i := 3) (N := some 51) (v := ?_) (a' := ?_) #[true, true, true, true, false, true, false, false, false, false] rfl rfl (take_ofW HT_.out HW_.out (by kernel_rfl)) (fun _ _ _ h => h) (Or.inl ⟨by rfl, ?_⟩) hHeld ?_ ?_
         rotate_left
         ·rintro w' ⟨s0, s1, s2, s3, s4, s5, s6, s7, s8, s9, s10, s11⟩
          go_simp
          with_reducible rfl
         rotate_left
         ·simp only [Act.put, List.setIfInBounds_toArray, List.set_cons_zero, List.set_cons_succ, i64_w, i32_w]
          rfl
         refine take_ (i := 4) (N := some 52) (v := ?_) (a' := ?_) #[true, true, true, true, true, true, false, false, false, false] rfl rfl (take_ofW HT_.out HW_.out (by kernel_rfl)) (fun _ _ _ h => h) (Or.inl ⟨by rfl, ?_⟩) hHeld ?_ ?_
         rotate_left
         ·rintro w' ⟨s0, s1, s2, s3, s4, s5, s6, s7, s8, s9, s10, s11⟩
          go_simp
          with_reducible rfl
         rotate_left
         ·simp only [Act.put, List.setIfInBounds_toArray, List.set_cons_zero, List.set_cons_succ, i64_w, i32_w]
          rfl
         refine one_ (i := 6) (N := some 54) #[true, true, true, true, true, true, true, false, false, false] rfl rfl (one_of HT_.out (by kernel_rfl)) (by decide) (fun K hK => ?_)
         refine goes_ Try.func73 (by kernel_rfl) rfl #[.agg #[.int .i64 a1_0, .int .i64 a1_1, .int .i64 a2_0, .int .i64 a2_1, .int .i64 a3_0, .int .i64 a3_1, .int .i64 a4, .int .i64 a5], .agg #[.int .i64 ((rd_T81 t526 x44_2).f0), .int .i64 ((rd_T81 t526 x44_2).f1), .int .i64 ((rd_T81 t526 x44_2).f2), .int .i64 ((rd_T81 t526 x44_2).f3)], .int .i64 (l0_0.length : Int)] (by rfl) rfl rfl al_ ?_
         with_reducible refine (lots_test_cost.calls k2 a1_0 a1_1 a2_0 a2_1 a3_0 a3_1 a4 a5 ((rd_T81 t526 x44_2).f0) ((rd_T81 t526 x44_2).f1) ((rd_T81 t526 x44_2).f2) ((rd_T81 t526 x44_2).f3) (l0_0.length : Int) t531 _ A90.out).mono ?_
         rintro e w101 ⟨rfl, hb⟩
         refine ⟨_, rfl, ?_⟩
         have n0_ := Aside0.mk (Kd.R_below (kr_ (HO_42.out)) hb)
         have n1_ := Aside0.mk (bkb_ BK518.out hb)
         have n2_ := Aside0.mk (bkb_ BK519.out hb)
         have n3_ := Aside0.mk (bkb_ BK520.out hb)
         have n4_ := Aside0.mk (bkb_ BK521.out hb)
         have n5_ := Aside0.mk (bkb_ BK522.out hb)
         have n6_ := Aside0.mk (bkb_ BK523.out hb)
         have n7_ := Aside0.mk (bkb_ BK530.out hb)
         have n8_ := Aside0.mk (below_step (hb_ HB.out) hb)
         clear HO_42
         clear BK518
         clear BK519
         clear BK520
         clear BK521
         clear BK522
         clear BK523
         clear BK530
         clear HB
         have HO_42 := n0_
         have BK518 := n1_
         have BK519 := n2_
         have BK520 := n3_
         have BK521 := n4_
         have BK522 := n5_
         have BK523 := n6_
         have BK530 := n7_
         have HB := n8_
         clear n0_ n1_ n2_ n3_ n4_ n5_ n6_ n7_ n8_
         (try clear hb)
         (try clear hb2)
         (try clear hk)
         (try clear hi)
         refine hK.out _ _ ⟨(blk_cell BK530.out 0).trans rfl, (blk_cell BK530.out 1).trans rfl, (blk_cell BK530.out 2).trans rfl, (blk_cell BK530.out 3).trans rfl, (blk_cell BK523.out 0).trans rfl, (blk_cell BK523.out 1).trans rfl, (blk_cell BK523.out 2).trans rfl, (blk_cell BK523.out 3).trans rfl, (blk_cell BK523.out 4).trans rfl, (blk_cell BK523.out 5).trans rfl, (blk_cell BK523.out 6).trans rfl, (blk_cell BK523.out 7).trans rfl⟩ (fun hHeld => ?_)
         clear hK K
         refine norm_ (a' := ?_) ?_ ?_
         rotate_left
         ·show Act.put _ (some 54) _ = _
          simp only [Act.put, List.setIfInBounds_toArray, List.set_cons_zero, List.set_cons_succ, i64_w, i32_w]
          rfl
         refine pure_ (i := 7) (N := some 55) (v := ?_) (a' := ?_) #[true, true, true, true, true, true, true, true, false, false] rfl rfl (any_of HT_.out (by kernel_rfl)) (fun _ _ _ h => h) (Or.inl ⟨by rfl, ?_⟩) ?_ ?_
         rotate_left
         ·intro w'
          go_simp
          with_reducible rfl
         rotate_left
         ·simp only [Act.put, List.setIfInBounds_toArray, List.set_cons_zero, List.set_cons_succ, i64_w, i32_w]
          rfl
         refine pure_ (i := 8) (N := some 56) (v := ?_) (a' := ?_) #[true, true, true, true, true, true, true, true, true, false] rfl rfl (any_of HT_.out (by kernel_rfl)) (fun _ _ _ h => h) (Or.inl ⟨by rfl, ?_⟩) ?_ ?_
         rotate_left
         ·intro w'
          go_simp
          with_reducible rfl
         rotate_left
         ·simp only [Act.put, List.setIfInBounds_toArray, List.set_cons_zero, List.set_cons_succ, i64_w, i32_w]
          rfl
         refine pure_ (i := 9) (N := some 16) (v := ?_) (a' := ?_) #[true, true, true, true, true, true, true, true, true, true] rfl rfl (any_of HT_.out (by kernel_rfl)) (fun _ _ _ h => h) (Or.inl ⟨by rfl, ?_⟩) ?_ ?_
         rotate_left
         ·intro w'
          go_simp
          with_reducible rfl
         rotate_left
         ·simp only [Act.put, List.setIfInBounds_toArray, List.set_cons_zero, List.set_cons_succ, i64_w, i32_w]
          rfl
         refine done_ (done_of HT_.out (by kernel_rfl)) ?_
         try go_wp2
         go_roundg k2
         case measure => have := HJ6.out; have := HK2.out; omega
         case rel => exact ⟨(wrap64 (x16_2 + (wrap64 (((rd_T81 t526 x44_2).f3) * t531)))), (wrap64 (x44_2 + 1)), (by first | rfl | (simp; done) | (simp [*]; done)), (by first | rfl | (simp; done) | (simp [*]; done)), H', ⟨by have := HJ6.out; have := HK2.out; omega⟩, ⟨by (with_reducible repeat (first | apply Kd.R_alloc | apply Kd.R_drewN | apply Kd.R_drew)); exact Kd.R_mono HO_42.out (fun _ hk => trivial)⟩, ⟨by (with_reducible repeat (first | refine blk_drewN ?_ _ | refine blk_drew ?_ | refine blk_alloc ?_ _)); exact BK518.out⟩, ⟨by (with_reducible repeat (first | refine blk_drewN ?_ _ | refine blk_drew ?_ | refine blk_alloc ?_ _)); exact BK519.out⟩, ⟨by (with_reducible repeat (first | refine blk_drewN ?_ _ | refine blk_drew ?_ | refine blk_alloc ?_ _)); exact BK520.out⟩, ⟨by (with_reducible repeat (first | refine blk_drewN ?_ _ | refine blk_drew ?_ | refine blk_alloc ?_ _)); exact BK521.out⟩, ⟨by (with_reducible repeat (first | refine blk_drewN ?_ _ | refine blk_drew ?_ | refine blk_alloc ?_ _)); exact BK522.out⟩, ⟨by (with_reducible repeat (first | refine blk_drewN ?_ _ | refine blk_drew ?_ | refine blk_alloc ?_ _)); exact BK523.out⟩, ⟨by repeat (first | (with_reducible first | exact HB.out | apply below_alloc | apply pw_below_drewN | apply below_drew1 | refine below_set ?_ GE518.out | refine below_set ?_ GE519.out | refine below_set ?_ GE520.out | refine below_set ?_ GE521.out | refine below_set ?_ GE522.out | refine below_set ?_ GE523.out | refine below_set ?_ GE530.out) | exact HB.out)⟩⟩
        ·rw [if_neg c89] at H
         exact absurd H (by simp)
       ·rw [if_neg c88] at H
        exact absurd H (by simp)
      ·rw [if_neg c87] at H
       have c87b0 : decide (x44_2 < (t526.length : Int)) = false := decide_eq_false c87
       clear c87
       replace H := Option.bind_eq_some_iff.mp H
       obtain ⟨t532, A1020, H⟩ := H
       replace H : ((lots_frac.f k2 x16_2 t532).bind fun bt533 => (some (bt533.1, bt533.2, 0))) = some (r1, r2, r3) := H
       have A102 := Aside0.mk A1020
       clear A1020
       replace H := Option.bind_eq_some_iff.mp H
       obtain ⟨⟨t533, t534⟩, A1030, H⟩ := H
       replace H : (some (t533, t534, 0)) = some (r1, r2, r3) := H
       have A103 := Aside0.mk A1030
       clear A1030
       simp only [Option.some.injEq, Prod.mk.injEq] at H
       obtain ⟨rfl, rfl, rfl⟩ := H
       have hnb104 := NB523_518.out
       have hnc104 := NB518_523.out
       have hnb105 := NB523_519.out
       have hnc105 := NB519_523.out
       have hnb106 := NB523_520.out
       have hnc106 := NB520_523.out
       have hnb107 := NB523_521.out
       have hnc107 := NB521_523.out
       have hnb108 := NB523_522.out
       have hnc108 := NB522_523.out
       have hcz109_0 : wr.cell? ⟨gb523, 0, none⟩ = some (.int .i64 a1_0) := (blk_cell BK523.out 0).trans rfl
       have hcz109_1 : wr.cell? ⟨gb523, 1, none⟩ = some (.int .i64 a1_1) := (blk_cell BK523.out 1).trans rfl
       have hcz109_2 : wr.cell? ⟨gb523, 2, none⟩ = some (.int .i64 a2_0) := (blk_cell BK523.out 2).trans rfl
       have hcz109_3 : wr.cell? ⟨gb523, 3, none⟩ = some (.int .i64 a2_1) := (blk_cell BK523.out 3).trans rfl
       have hcz109_4 : wr.cell? ⟨gb523, 4, none⟩ = some (.int .i64 a3_0) := (blk_cell BK523.out 4).trans rfl
       have hcz109_5 : wr.cell? ⟨gb523, 5, none⟩ = some (.int .i64 a3_1) := (blk_cell BK523.out 5).trans rfl
       have hcz109_6 : wr.cell? ⟨gb523, 6, none⟩ = some (.int .i64 a4) := (blk_cell BK523.out 6).trans rfl
       have hcz109_7 : wr.cell? ⟨gb523, 7, none⟩ = some (.int .i64 a5) := (blk_cell BK523.out 7).trans rfl
       have hfz109_0 := blk_frozen BK523.out 0
       have hfz109_1 := blk_frozen BK523.out 1
       have hfz109_2 := blk_frozen BK523.out 2
       have hfz109_3 := blk_frozen BK523.out 3
       have hfz109_4 := blk_frozen BK523.out 4
       have hfz109_5 := blk_frozen BK523.out 5
       have hfz109_6 := blk_frozen BK523.out 6
       have hfz109_7 := blk_frozen BK523.out 7
       go_wp2_with (first | ((with_reducible refine gate_callee (f := 70) rfl ?_); refine goesL_ (some 61) rfl rfl Try.func70 (by kernel_rfl) rfl #[.agg #[.int .i64 a1_0, .int .i64 a1_1, .int .i64 a2_0, .int .i64 a2_1, .int .i64 a3_0, .int .i64 a3_1, .int .i64 a4, .int .i64 a5], .int .i64 (l0_0.length : Int)] rfl al_ ?_; (with_reducible refine (lots_test_whole.calls k2 a1_0 a1_1 a2_0 a2_1 a3_0 a3_1 a4 a5 (l0_0.length : Int) t532 _ A102.out).mono ?_); rintro e w110 ⟨rfl, hb⟩; refine ⟨_, rfl, ?_⟩; have n0_ := Aside0.mk (Kd.R_below (kr_ (HO_42.out)) hb); have n1_ := Aside0.mk (bkb_ BK518.out hb); have n2_ := Aside0.mk (bkb_ BK519.out hb); have n3_ := Aside0.mk (bkb_ BK520.out hb); have n4_ := Aside0.mk (bkb_ BK521.out hb); have n5_ := Aside0.mk (bkb_ BK522.out hb); have n6_ := Aside0.mk (bkb_ BK523.out hb); have n7_ := Aside0.mk (below_step (hb_ HB.out) hb); clear HO_42; clear BK518; clear BK519; clear BK520; clear BK521; clear BK522; clear BK523; clear HB; have HO_42 := n0_; have BK518 := n1_; have BK519 := n2_; have BK520 := n3_; have BK521 := n4_; have BK522 := n5_; have BK523 := n6_; have HB := n7_; clear n0_ n1_ n2_ n3_ n4_ n5_ n6_ n7_; (try clear hb); (try clear hb2); (try clear hk); (try clear hi)) | ((with_reducible refine gate_callee (f := 63) rfl ?_); refine goesL_ (some 62) rfl rfl Try.func63 (by kernel_rfl) rfl #[.int .i64 x16_2, .int .i64 t532] rfl al_ ?_; (with_reducible refine (lots_frac.calls k2 x16_2 t532 t533 t534 _ A103.out).mono ?_); rintro e w111 ⟨rfl, hb⟩; refine ⟨_, rfl, ?_⟩; have n0_ := Aside0.mk (Kd.R_below (kr_ (HO_42.out)) hb); have n1_ := Aside0.mk (bkb_ BK518.out hb); have n2_ := Aside0.mk (bkb_ BK519.out hb); have n3_ := Aside0.mk (bkb_ BK520.out hb); have n4_ := Aside0.mk (bkb_ BK521.out hb); have n5_ := Aside0.mk (bkb_ BK522.out hb); have n6_ := Aside0.mk (bkb_ BK523.out hb); have n7_ := Aside0.mk (below_step (hb_ HB.out) hb); clear HO_42; clear BK518; clear BK519; clear BK520; clear BK521; clear BK522; clear BK523; clear HB; have HO_42 := n0_; have BK518 := n1_; have BK519 := n2_; have BK520 := n3_; have BK521 := n4_; have BK522 := n5_; have BK523 := n6_; have HB := n7_; clear n0_ n1_ n2_ n3_ n4_ n5_ n6_ n7_; (try clear hb); (try clear hb2); (try clear hk); (try clear hi); have hnb112 := NB522_518.out; have hnc112 := NB518_522.out; have hnb113 := NB522_519.out; have hnc113 := NB519_522.out; have hnb114 := NB522_520.out; have hnc114 := NB520_522.out; have hnb115 := NB522_521.out; have hnc115 := NB521_522.out; have hcz116_0 : w111.cell? ⟨gb522, 0, none⟩ = some (.int .i64 0) := (blk_cell BK522.out 0).trans rfl; have hcz116_1 : w111.cell? ⟨gb522, 1, none⟩ = some (.int .i64 0) := (blk_cell BK522.out 1).trans rfl; have hfz116_0 := blk_frozen BK522.out 0; have hfz116_1 := blk_frozen BK522.out 1))
       refine bodyPost_ret (results_ct rfl _ _ gb522 28 #[.int .i64 t533, .int .i64 t534] (0, 0) _ rfl (by (with_reducible repeat (first | refine blk_drewN ?_ _ | refine blk_drew ?_ | refine blk_alloc ?_ _)); refine blk_put (cs := #[.int .i64 t533, .int .i64 0]) ?_ 1 _ rfl; (with_reducible repeat (first | refine blk_drewN ?_ _ | refine blk_drew ?_ | refine blk_alloc ?_ _)); refine blk_put (cs := #[.int .i64 0, .int .i64 0]) ?_ 0 _ rfl; (with_reducible repeat (first | refine blk_drewN ?_ _ | refine blk_drew ?_ | refine blk_alloc ?_ _)); exact BK522.out) Try.underlying28 rfl (by kernel_rfl)) rfl ?_
       exact ⟨by first | rfl | (simp [errW_none, errW_some] <;> rfl) | (simp [*, errW_none, errW_some] <;> rfl), by repeat (first | (with_reducible first | exact HB.out | apply below_alloc | apply pw_below_drewN | apply below_drew1 | refine below_set ?_ GE518.out | refine below_set ?_ GE519.out | refine below_set ?_ GE520.out | refine below_set ?_ GE521.out | refine below_set ?_ GE522.out | refine below_set ?_ GE523.out) | exact HB.out)⟩

end Go.Proofs.Ytdppnmfljfdhaaa.X
