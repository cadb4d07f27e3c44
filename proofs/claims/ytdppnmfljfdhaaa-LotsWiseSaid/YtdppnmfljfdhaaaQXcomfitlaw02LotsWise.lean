/- Written by a program of this session (wip/tools/xprint.py, which calls the kit's print): Go functions as Lean functions, and for each the proof that the machine's call does what it says; no conditions but those that each theorem names. -/
import Derived.Test.YtdppnmfljfdhaaaQX0
import Derived.Test.YtdppnmfljfdhaaaQXEq
import Derived.Test.YtdppnmfljfdhaaaQXL
import Derived.Test.YtdppnmfljfdhaaaQXR
import Derived.Test.YtdppnmfljfdhaaaQXcomfitlaw02awake
import Derived.Test.YtdppnmfljfdhaaaQXlotsWise
import Derived.Test.YtdppnmfljfdhaaaQHRWise
namespace Go.Proofs.Ytdppnmfljfdhaaa.X
open Go.RowKit Go.Proofs.YtdppnmfljfdhaaaW.PrintWords Go.Proofs.YtdppnmfljfdhaaaW.PrintLast Go.Proofs.YtdppnmfljfdhaaaW.PrintMore
attribute [local go_sem] max2_int min2_int max_two min_two max_three min_three max_four min_four   -- for this text's walks alone
set_option linter.unusedVariables false
set_option linter.unusedSimpArgs false

attribute [local go_sem high] eqA28
/-! ### comfitlaw02_LotsWise: function 11 -/
def comfitlaw02_LotsWise.j0 : Nat → Int → Int → Int → Int → Bool → Int → Int → Int → Int → Int → Int → Int → Int → Option (Bool)
 | 0, _, _, _, _, _, _, _, _, _, _, _, _, _ => none
 | k + 1, x0, x4, x5, x14, x67, x497000, x497001, x498000, x498001, x499000, x499001, x509000, x509001 => if x67 = true then ((comfitlaw02_none.f x509000 x509001).bind fun t513 => (if t513 = true then (if x14 = 2 then ((comfitlaw02_awake.f k).bind fun t514 => (some t514)) else (some false)) else (some false))) else ((comfitref02_Wise.f k x0 x497000 x497001 x498000 x498001 x499000 x499001 x4 x5).bind fun bt515 => (if (x509000 == bt515.1 && (x509001 == bt515.2)) = true then (if x14 = 0 then ((comfitlaw02_awake.f k).bind fun t517 => (some t517)) else (some false)) else (some false)))
def comfitlaw02_LotsWise.f (k : Nat) (a0 : Int) (a1_0 : Int) (a1_1 : Int) (a2_0 : Int) (a2_1 : Int) (a3_0 : Int) (a3_1 : Int) (a4 : Int) (a5 : Int) : Option (Bool) := (comfitlaw02_chance.f a1_0 a1_1).bind fun bt499 => ((comfitlaw02_chance.f a2_0 a2_1).bind fun bt501 => ((comfitlaw02_chance.f a3_0 a3_1).bind fun bt503 => ((lots_Wise.f k a0 bt499.1 bt499.2 bt501.1 bt501.2 bt503.1 bt503.2 a4 a5).bind fun bt505 => (if a0 < 1 then (comfitlaw02_LotsWise.j0 k a0 a4 a5 bt505.2.2 true a1_0 a1_1 a2_0 a2_1 a3_0 a3_1 bt505.1 bt505.2.1) else (if a0 > 6 then (comfitlaw02_LotsWise.j0 k a0 a4 a5 bt505.2.2 true a1_0 a1_1 a2_0 a2_1 a3_0 a3_1 bt505.1 bt505.2.1) else ((comfitref02_Is.f a1_0 a1_1).bind fun t509 => (if t509 = true then ((comfitref02_Is.f a2_0 a2_1).bind fun t510 => (if t510 = true then ((comfitref02_Is.f a3_0 a3_1).bind fun t511 => (if t511 = true then ((comfitref02_Cost.f a4 a5).bind fun t512 => (if t512 = true then (comfitlaw02_LotsWise.j0 k a0 a4 a5 bt505.2.2 (decide ((wrap64 (a1_0 * a2_1)) > (wrap64 (a2_0 * a1_1)))) a1_0 a1_1 a2_0 a2_1 a3_0 a3_1 bt505.1 bt505.2.1) else (comfitlaw02_LotsWise.j0 k a0 a4 a5 bt505.2.2 true a1_0 a1_1 a2_0 a2_1 a3_0 a3_1 bt505.1 bt505.2.1))) else (comfitlaw02_LotsWise.j0 k a0 a4 a5 bt505.2.2 true a1_0 a1_1 a2_0 a2_1 a3_0 a3_1 bt505.1 bt505.2.1))) else (comfitlaw02_LotsWise.j0 k a0 a4 a5 bt505.2.2 true a1_0 a1_1 a2_0 a2_1 a3_0 a3_1 bt505.1 bt505.2.1))) else (comfitlaw02_LotsWise.j0 k a0 a4 a5 bt505.2.2 true a1_0 a1_1 a2_0 a2_1 a3_0 a3_1 bt505.1 bt505.2.1))))))))
def comfitlaw02_LotsWise.T1 : Bool × List (List Nat × List Nat) := (true, [([], []), ([], []), ([1], [1]), ([], []), ([3, 2], [3]), ([], []), ([5, 4], [5]), ([], []), ([], []), ([0, 2, 4, 6, 7, 8, 6], [0, 2, 4, 6, 7, 8]), ([9], [9]), ([10], [10]), ([10], [10]), ([], []), ([13, 11, 9, 0, 1, 2, 3, 4, 5, 6, 7, 8, 9, 10, 11, 13], [11, 13]), ([12, 14, 0, 1, 2, 3, 4, 5, 6, 7, 8, 9, 10, 11, 12, 13, 14], [12])])
def comfitlaw02_LotsWise.B1 : List Nat := [0, 0, 2, 0, 14, 0, 62, 0, 0, 511, 1023, 2047, 2047, 0, 12287, 32767]
theorem comfitlaw02_LotsWise.tab1 : rtab .any (opsOf Try.f11 1) = comfitlaw02_LotsWise.T1 := by kernel_rfl
theorem comfitlaw02_LotsWise.bits1 : waitsOk comfitlaw02_LotsWise.T1.2 comfitlaw02_LotsWise.B1 = true := by kernel_rfl
def comfitlaw02_LotsWise.T4 : Bool × List (List Nat × List Nat) := (true, [([], []), ([], []), ([], []), ([], []), ([], []), ([], []), ([], []), ([1, 2, 3, 4, 5, 6], [1, 2, 3, 4, 5, 6]), ([0, 7], [0, 7]), ([8, 7], [8]), ([9], [9]), ([10, 9], [9, 10]), ([9, 11], [9, 11]), ([12, 9], [12]), ([13, 13], [13]), ([13, 14], [13, 14]), ([15, 14, 0, 1, 2, 3, 4, 5, 6, 7, 8, 9, 10, 11, 12, 13, 14, 15], [15])])
def comfitlaw02_LotsWise.B4 : List Nat := [0, 0, 0, 0, 0, 0, 0, 126, 255, 511, 1023, 2047, 4095, 8191, 16383, 32767, 65535]
theorem comfitlaw02_LotsWise.tab4 : rtab .any (opsOf Try.f11 4) = comfitlaw02_LotsWise.T4 := by kernel_rfl
theorem comfitlaw02_LotsWise.bits4 : waitsOk comfitlaw02_LotsWise.T4.2 comfitlaw02_LotsWise.B4 = true := by kernel_rfl
set_option maxHeartbeats 8000000 in
set_option maxRecDepth 100000 in
theorem comfitlaw02_LotsWise.calls (k : Nat) (a0 : Int) (a1_0 : Int) (a1_1 : Int) (a2_0 : Int) (a2_1 : Int) (a3_0 : Int) (a3_1 : Int) (a4 : Int) (a5 : Int) (r : Bool) (w : World) (h : comfitlaw02_LotsWise.f k a0 a1_0 a1_1 a2_0 a2_1 a3_0 a3_1 a4 a5 = some r) :
  Calls Try.prog 11 #[.int .i64 a0, .agg #[.int .i64 a1_0, .int .i64 a1_1], .agg #[.int .i64 a2_0, .int .i64 a2_1], .agg #[.int .i64 a3_0, .int .i64 a3_1], .int .i64 a4, .int .i64 a5] w fun e w' => e = .returned (.bool r) ∧ Below w.heap.size w w' := by
 have hu26 := Try.underlying26
 have hu28 := Try.underlying28
 have HB := Aside0.mk (Below.refl w.heap.size w)
 have H : ((comfitlaw02_chance.f a1_0 a1_1).bind fun bt499 => ((comfitlaw02_chance.f a2_0 a2_1).bind fun bt501 => ((comfitlaw02_chance.f a3_0 a3_1).bind fun bt503 => ((lots_Wise.f k a0 bt499.1 bt499.2 bt501.1 bt501.2 bt503.1 bt503.2 a4 a5).bind fun bt505 => (if a0 < 1 then (comfitlaw02_LotsWise.j0 k a0 a4 a5 bt505.2.2 true a1_0 a1_1 a2_0 a2_1 a3_0 a3_1 bt505.1 bt505.2.1) else (if a0 > 6 then (comfitlaw02_LotsWise.j0 k a0 a4 a5 bt505.2.2 true a1_0 a1_1 a2_0 a2_1 a3_0 a3_1 bt505.1 bt505.2.1) else ((comfitref02_Is.f a1_0 a1_1).bind fun t509 => (if t509 = true then ((comfitref02_Is.f a2_0 a2_1).bind fun t510 => (if t510 = true then ((comfitref02_Is.f a3_0 a3_1).bind fun t511 => (if t511 = true then ((comfitref02_Cost.f a4 a5).bind fun t512 => (if t512 = true then (comfitlaw02_LotsWise.j0 k a0 a4 a5 bt505.2.2 (decide ((wrap64 (a1_0 * a2_1)) > (wrap64 (a2_0 * a1_1)))) a1_0 a1_1 a2_0 a2_1 a3_0 a3_1 bt505.1 bt505.2.1) else (comfitlaw02_LotsWise.j0 k a0 a4 a5 bt505.2.2 true a1_0 a1_1 a2_0 a2_1 a3_0 a3_1 bt505.1 bt505.2.1))) else (comfitlaw02_LotsWise.j0 k a0 a4 a5 bt505.2.2 true a1_0 a1_1 a2_0 a2_1 a3_0 a3_1 bt505.1 bt505.2.1))) else (comfitlaw02_LotsWise.j0 k a0 a4 a5 bt505.2.2 true a1_0 a1_1 a2_0 a2_1 a3_0 a3_1 bt505.1 bt505.2.1))) else (comfitlaw02_LotsWise.j0 k a0 a4 a5 bt505.2.2 true a1_0 a1_1 a2_0 a2_1 a3_0 a3_1 bt505.1 bt505.2.1))))))))) = some r := h
 clear h
 replace H := Option.bind_eq_some_iff.mp H
 obtain ⟨⟨t499, t500⟩, A70, H⟩ := H
 replace H : ((comfitlaw02_chance.f a2_0 a2_1).bind fun bt501 => ((comfitlaw02_chance.f a3_0 a3_1).bind fun bt503 => ((lots_Wise.f k a0 t499 t500 bt501.1 bt501.2 bt503.1 bt503.2 a4 a5).bind fun bt505 => (if a0 < 1 then (comfitlaw02_LotsWise.j0 k a0 a4 a5 bt505.2.2 true a1_0 a1_1 a2_0 a2_1 a3_0 a3_1 bt505.1 bt505.2.1) else (if a0 > 6 then (comfitlaw02_LotsWise.j0 k a0 a4 a5 bt505.2.2 true a1_0 a1_1 a2_0 a2_1 a3_0 a3_1 bt505.1 bt505.2.1) else ((comfitref02_Is.f a1_0 a1_1).bind fun t509 => (if t509 = true then ((comfitref02_Is.f a2_0 a2_1).bind fun t510 => (if t510 = true then ((comfitref02_Is.f a3_0 a3_1).bind fun t511 => (if t511 = true then ((comfitref02_Cost.f a4 a5).bind fun t512 => (if t512 = true then (comfitlaw02_LotsWise.j0 k a0 a4 a5 bt505.2.2 (decide ((wrap64 (a1_0 * a2_1)) > (wrap64 (a2_0 * a1_1)))) a1_0 a1_1 a2_0 a2_1 a3_0 a3_1 bt505.1 bt505.2.1) else (comfitlaw02_LotsWise.j0 k a0 a4 a5 bt505.2.2 true a1_0 a1_1 a2_0 a2_1 a3_0 a3_1 bt505.1 bt505.2.1))) else (comfitlaw02_LotsWise.j0 k a0 a4 a5 bt505.2.2 true a1_0 a1_1 a2_0 a2_1 a3_0 a3_1 bt505.1 bt505.2.1))) else (comfitlaw02_LotsWise.j0 k a0 a4 a5 bt505.2.2 true a1_0 a1_1 a2_0 a2_1 a3_0 a3_1 bt505.1 bt505.2.1))) else (comfitlaw02_LotsWise.j0 k a0 a4 a5 bt505.2.2 true a1_0 a1_1 a2_0 a2_1 a3_0 a3_1 bt505.1 bt505.2.1)))))))) = some r := H
 have A7 := Aside0.mk A70
 clear A70
 replace H := Option.bind_eq_some_iff.mp H
 obtain ⟨⟨t501, t502⟩, A80, H⟩ := H
 replace H : ((comfitlaw02_chance.f a3_0 a3_1).bind fun bt503 => ((lots_Wise.f k a0 t499 t500 t501 t502 bt503.1 bt503.2 a4 a5).bind fun bt505 => (if a0 < 1 then (comfitlaw02_LotsWise.j0 k a0 a4 a5 bt505.2.2 true a1_0 a1_1 a2_0 a2_1 a3_0 a3_1 bt505.1 bt505.2.1) else (if a0 > 6 then (comfitlaw02_LotsWise.j0 k a0 a4 a5 bt505.2.2 true a1_0 a1_1 a2_0 a2_1 a3_0 a3_1 bt505.1 bt505.2.1) else ((comfitref02_Is.f a1_0 a1_1).bind fun t509 => (if t509 = true then ((comfitref02_Is.f a2_0 a2_1).bind fun t510 => (if t510 = true then ((comfitref02_Is.f a3_0 a3_1).bind fun t511 => (if t511 = true then ((comfitref02_Cost.f a4 a5).bind fun t512 => (if t512 = true then (comfitlaw02_LotsWise.j0 k a0 a4 a5 bt505.2.2 (decide ((wrap64 (a1_0 * a2_1)) > (wrap64 (a2_0 * a1_1)))) a1_0 a1_1 a2_0 a2_1 a3_0 a3_1 bt505.1 bt505.2.1) else (comfitlaw02_LotsWise.j0 k a0 a4 a5 bt505.2.2 true a1_0 a1_1 a2_0 a2_1 a3_0 a3_1 bt505.1 bt505.2.1))) else (comfitlaw02_LotsWise.j0 k a0 a4 a5 bt505.2.2 true a1_0 a1_1 a2_0 a2_1 a3_0 a3_1 bt505.1 bt505.2.1))) else (comfitlaw02_LotsWise.j0 k a0 a4 a5 bt505.2.2 true a1_0 a1_1 a2_0 a2_1 a3_0 a3_1 bt505.1 bt505.2.1))) else (comfitlaw02_LotsWise.j0 k a0 a4 a5 bt505.2.2 true a1_0 a1_1 a2_0 a2_1 a3_0 a3_1 bt505.1 bt505.2.1))))))) = some r := H
 have A8 := Aside0.mk A80
 clear A80
 replace H := Option.bind_eq_some_iff.mp H
 obtain ⟨⟨t503, t504⟩, A90, H⟩ := H
 replace H : ((lots_Wise.f k a0 t499 t500 t501 t502 t503 t504 a4 a5).bind fun bt505 => (if a0 < 1 then (comfitlaw02_LotsWise.j0 k a0 a4 a5 bt505.2.2 true a1_0 a1_1 a2_0 a2_1 a3_0 a3_1 bt505.1 bt505.2.1) else (if a0 > 6 then (comfitlaw02_LotsWise.j0 k a0 a4 a5 bt505.2.2 true a1_0 a1_1 a2_0 a2_1 a3_0 a3_1 bt505.1 bt505.2.1) else ((comfitref02_Is.f a1_0 a1_1).bind fun t509 => (if t509 = true then ((comfitref02_Is.f a2_0 a2_1).bind fun t510 => (if t510 = true then ((comfitref02_Is.f a3_0 a3_1).bind fun t511 => (if t511 = true then ((comfitref02_Cost.f a4 a5).bind fun t512 => (if t512 = true then (comfitlaw02_LotsWise.j0 k a0 a4 a5 bt505.2.2 (decide ((wrap64 (a1_0 * a2_1)) > (wrap64 (a2_0 * a1_1)))) a1_0 a1_1 a2_0 a2_1 a3_0 a3_1 bt505.1 bt505.2.1) else (comfitlaw02_LotsWise.j0 k a0 a4 a5 bt505.2.2 true a1_0 a1_1 a2_0 a2_1 a3_0 a3_1 bt505.1 bt505.2.1))) else (comfitlaw02_LotsWise.j0 k a0 a4 a5 bt505.2.2 true a1_0 a1_1 a2_0 a2_1 a3_0 a3_1 bt505.1 bt505.2.1))) else (comfitlaw02_LotsWise.j0 k a0 a4 a5 bt505.2.2 true a1_0 a1_1 a2_0 a2_1 a3_0 a3_1 bt505.1 bt505.2.1))) else (comfitlaw02_LotsWise.j0 k a0 a4 a5 bt505.2.2 true a1_0 a1_1 a2_0 a2_1 a3_0 a3_1 bt505.1 bt505.2.1)))))) = some r := H
 have A9 := Aside0.mk A90
 clear A90
 replace H := Option.bind_eq_some_iff.mp H
 obtain ⟨⟨t505, t506, t507⟩, A100, H⟩ := H
 replace H : (if a0 < 1 then (comfitlaw02_LotsWise.j0 k a0 a4 a5 t507 true a1_0 a1_1 a2_0 a2_1 a3_0 a3_1 t505 t506) else (if a0 > 6 then (comfitlaw02_LotsWise.j0 k a0 a4 a5 t507 true a1_0 a1_1 a2_0 a2_1 a3_0 a3_1 t505 t506) else ((comfitref02_Is.f a1_0 a1_1).bind fun t509 => (if t509 = true then ((comfitref02_Is.f a2_0 a2_1).bind fun t510 => (if t510 = true then ((comfitref02_Is.f a3_0 a3_1).bind fun t511 => (if t511 = true then ((comfitref02_Cost.f a4 a5).bind fun t512 => (if t512 = true then (comfitlaw02_LotsWise.j0 k a0 a4 a5 t507 (decide ((wrap64 (a1_0 * a2_1)) > (wrap64 (a2_0 * a1_1)))) a1_0 a1_1 a2_0 a2_1 a3_0 a3_1 t505 t506) else (comfitlaw02_LotsWise.j0 k a0 a4 a5 t507 true a1_0 a1_1 a2_0 a2_1 a3_0 a3_1 t505 t506))) else (comfitlaw02_LotsWise.j0 k a0 a4 a5 t507 true a1_0 a1_1 a2_0 a2_1 a3_0 a3_1 t505 t506))) else (comfitlaw02_LotsWise.j0 k a0 a4 a5 t507 true a1_0 a1_1 a2_0 a2_1 a3_0 a3_1 t505 t506))) else (comfitlaw02_LotsWise.j0 k a0 a4 a5 t507 true a1_0 a1_1 a2_0 a2_1 a3_0 a3_1 t505 t506))))) = some r := H
 have A10 := Aside0.mk A100
 clear A100
 have HC11 := Aside0.mk H
 clear H
 go_enter Try.func11, Try.ntmps11
 try go_wp2_with (first | ((with_reducible refine gate_dst (N := 7) rfl ?_); refine box_event ?hg (N := 7) ?hd (cs := #[.int .i64 a1_0, .int .i64 a1_1]) (t := 26) ?hr ?_; (case hd => rfl); (case hg => rfl); (case hr => first | (go_simp; done) | (go_simp; rfl)); intro gb496 hg w12 hbox hb; have n0_ := Aside0.mk (below_step (hb_ HB.out) hb); have n1_ := Aside0.mk (hbox); have n2_ := Aside0.mk ((by rw [hg]; exact (below_size (hb_ HB.out)) : w.heap.size ≤ gb496)); have n3_ := Aside0.mk ((by rw [hg]; exact (below_size (hb_ HB.out)) : w.heap.size ≤ gb496)); clear HB; have HB := n0_; have BK496 := n1_; have GW496 := n2_; have GE496 := n3_; clear n0_ n1_ n2_ n3_; clear hb hbox hg) | ((with_reducible refine gate_dst (N := 8) rfl ?_); refine box_event ?hg (N := 8) ?hd (cs := #[.int .i64 a2_0, .int .i64 a2_1]) (t := 26) ?hr ?_; (case hd => rfl); (case hg => rfl); (case hr => first | (go_simp; done) | (go_simp; rfl)); intro gb497 hg w13 hbox hb; have n0_ := Aside0.mk (bkb_ BK496.out hb); have n1_ := Aside0.mk (below_step (hb_ HB.out) hb); have n2_ := Aside0.mk (hbox); have n3_ := Aside0.mk ((by rw [hg]; exact (below_size (hb_ HB.out)) : w.heap.size ≤ gb497)); have n4_ := Aside0.mk ((by rw [hg]; exact (below_size (hb_ HB.out)) : w.heap.size ≤ gb497)); have n5_ := Aside0.mk ((by rw [hg]; exact Nat.ne_of_lt (bkl_ BK496.out) : gb496 ≠ gb497)); have n6_ := Aside0.mk ((by rw [hg]; exact Nat.ne_of_gt (bkl_ BK496.out) : gb497 ≠ gb496)); clear BK496; clear HB; have BK496 := n0_; have HB := n1_; have BK497 := n2_; have GW497 := n3_; have GE497 := n4_; have NB496_497 := n5_; have NB497_496 := n6_; clear n0_ n1_ n2_ n3_ n4_ n5_ n6_; clear hb hbox hg) | ((with_reducible refine gate_dst (N := 9) rfl ?_); refine box_event ?hg (N := 9) ?hd (cs := #[.int .i64 a3_0, .int .i64 a3_1]) (t := 26) ?hr ?_; (case hd => rfl); (case hg => rfl); (case hr => first | (go_simp; done) | (go_simp; rfl)); intro gb498 hg w14 hbox hb; have n0_ := Aside0.mk (bkb_ BK496.out hb); have n1_ := Aside0.mk (bkb_ BK497.out hb); have n2_ := Aside0.mk (below_step (hb_ HB.out) hb); have n3_ := Aside0.mk (hbox); have n4_ := Aside0.mk ((by rw [hg]; exact (below_size (hb_ HB.out)) : w.heap.size ≤ gb498)); have n5_ := Aside0.mk ((by rw [hg]; exact (below_size (hb_ HB.out)) : w.heap.size ≤ gb498)); have n6_ := Aside0.mk ((by rw [hg]; exact Nat.ne_of_lt (bkl_ BK496.out) : gb496 ≠ gb498)); have n7_ := Aside0.mk ((by rw [hg]; exact Nat.ne_of_gt (bkl_ BK496.out) : gb498 ≠ gb496)); have n8_ := Aside0.mk ((by rw [hg]; exact Nat.ne_of_lt (bkl_ BK497.out) : gb497 ≠ gb498)); have n9_ := Aside0.mk ((by rw [hg]; exact Nat.ne_of_gt (bkl_ BK497.out) : gb498 ≠ gb497)); clear BK496; clear BK497; clear HB; have BK496 := n0_; have BK497 := n1_; have HB := n2_; have BK498 := n3_; have GW498 := n4_; have GE498 := n5_; have NB496_498 := n6_; have NB498_496 := n7_; have NB497_498 := n8_; have NB498_497 := n9_; clear n0_ n1_ n2_ n3_ n4_ n5_ n6_ n7_ n8_ n9_; clear hb hbox hg))
 have n0_ := Aside0.mk (blk_drew BK496.out)
 have n1_ := Aside0.mk (blk_drew BK497.out)
 have n2_ := Aside0.mk (blk_drew BK498.out)
 have n3_ := Aside0.mk (below_drew1 HB.out)
 clear BK496
 clear BK497
 clear BK498
 clear HB
 have BK496 := n0_
 have BK497 := n1_
 have BK498 := n2_
 have HB := n3_
 clear n0_ n1_ n2_ n3_
 refine start_ (n := 16) (S := fun w' => w'.cell? ⟨gb496, 0, none⟩ = some (.int .i64 a1_0) ∧ w'.cell? ⟨gb496, 1, none⟩ = some (.int .i64 a1_1) ∧ w'.cell? ⟨gb497, 0, none⟩ = some (.int .i64 a2_0) ∧ w'.cell? ⟨gb497, 1, none⟩ = some (.int .i64 a2_1) ∧ w'.cell? ⟨gb498, 0, none⟩ = some (.int .i64 a3_0) ∧ w'.cell? ⟨gb498, 1, none⟩ = some (.int .i64 a3_1)) (ds := []) #[false, false, false, false, false, false, false, false, false, false, false, false, false, false, false, false] (by kernel_rfl) rfl rfl ⟨(blk_cell BK496.out 0).trans rfl, (blk_cell BK496.out 1).trans rfl, (blk_cell BK497.out 0).trans rfl, (blk_cell BK497.out 1).trans rfl, (blk_cell BK498.out 0).trans rfl, (blk_cell BK498.out 1).trans rfl⟩ (fun hHeld => ?_); refine with_tabW comfitlaw02_LotsWise.tab1 comfitlaw02_LotsWise.bits1 (fun HT_ HW_ => ?_)
 generalize w14.drew = w15 at BK496 BK497 BK498 HB hHeld ⊢
 refine pure_ (i := 0) (N := some 16) (v := ?_) (a' := ?_) #[true, false, false, false, false, false, false, false, false, false, false, false, false, false, false, false] rfl rfl (any_of HT_.out (by kernel_rfl)) (fun _ _ _ h => h) (Or.inl ⟨by rfl, ?_⟩) ?_ ?_
 rotate_left
 ·intro w'
  go_simp
  with_reducible rfl
 rotate_left
 ·simp only [Act.put, List.setIfInBounds_toArray, List.set_cons_zero, List.set_cons_succ, i64_w, i32_w]
  rfl
 refine pure_ (i := 7) (N := some 23) (v := ?_) (a' := ?_) #[true, false, false, false, false, false, false, true, false, false, false, false, false, false, false, false] rfl rfl (any_of HT_.out (by kernel_rfl)) (fun _ _ _ h => h) (Or.inl ⟨by rfl, ?_⟩) ?_ ?_
 rotate_left
 ·intro w'
  go_simp
  with_reducible rfl
 rotate_left
 ·simp only [Act.put, List.setIfInBounds_toArray, List.set_cons_zero, List.set_cons_succ, i64_w, i32_w]
  rfl
 refine pure_ (i := 8) (N := some 24) (v := ?_) (a' := ?_) #[true, false, false, false, false, false, false, true, true, false, false, false, false, false, false, false] rfl rfl (any_of HT_.out (by kernel_rfl)) (fun _ _ _ h => h) (Or.inl ⟨by rfl, ?_⟩) ?_ ?_
 rotate_left
 ·intro w'
  go_simp
  with_reducible rfl
 rotate_left
 ·simp only [Act.put, List.setIfInBounds_toArray, List.set_cons_zero, List.set_cons_succ, i64_w, i32_w]
  rfl
 refine take_ (i := 1) (N := some 17) (v := ?_) (a' := ?_) #[true, true, false, false, false, false, false, true, true, false, false, false, false, false, false, false] rfl rfl (take_ofW HT_.out HW_.out (by kernel_rfl)) (fun _ _ _ h => h) (Or.inl ⟨by rfl, ?_⟩) hHeld ?_ ?_
 rotate_left
 ·rintro w' ⟨s0, s1, s2, s3, s4, s5⟩
  go_simp
  with_reducible rfl
 rotate_left
 ·simp only [Act.put, List.setIfInBounds_toArray, List.set_cons_zero, List.set_cons_succ, i64_w, i32_w]
  rfl
 refine take_ (i := 3) (N := some 19) (v := ?_) (a' := ?_) #[true, true, false, true, false, false, false, true, true, false, false, false, false, false, false, false] rfl rfl (take_ofW HT_.out HW_.out (by kernel_rfl)) (fun _ _ _ h => h) (Or.inl ⟨by rfl, ?_⟩) hHeld ?_ ?_
 rotate_left
 ·rintro w' ⟨s0, s1, s2, s3, s4, s5⟩
  go_simp
  with_reducible rfl
 rotate_left
 ·simp only [Act.put, List.setIfInBounds_toArray, List.set_cons_zero, List.set_cons_succ, i64_w, i32_w]
  rfl
 refine take_ (i := 5) (N := some 21) (v := ?_) (a' := ?_) #[true, true, false, true, false, true, false, true, true, false, false, false, false, false, false, false] rfl rfl (take_ofW HT_.out HW_.out (by kernel_rfl)) (fun _ _ _ h => h) (Or.inl ⟨by rfl, ?_⟩) hHeld ?_ ?_
 rotate_left
 ·rintro w' ⟨s0, s1, s2, s3, s4, s5⟩
  go_simp
  with_reducible rfl
 rotate_left
 ·simp only [Act.put, List.setIfInBounds_toArray, List.set_cons_zero, List.set_cons_succ, i64_w, i32_w]
  rfl
 refine join_ (σ := Nat) 2 #[true, true, true, true, true, true, true, true, true, true, true, true, true, true, false, false] (fun s_ => [(18, .agg #[.int .i64 t499, .int .i64 t500]), (20, .agg #[.int .i64 t501, .int .i64 t502]), (22, .agg #[.int .i64 t503, .int .i64 t504]), (25, .tuple #[.agg #[.int .i64 t505, .int .i64 t506], .int .i64 t507]), (13, .pointer (some ⟨s_, 0, none⟩)), (15, .tuple #[.agg #[.int .i64 t505, .int .i64 t506], .int .i64 t507]), (26, .agg #[.int .i64 t505, .int .i64 t506]), (27, .int .i64 t507)]) (fun s_ w' => (w'.cell? ⟨gb496, 0, none⟩ = some (.int .i64 a1_0) ∧ w'.cell? ⟨gb496, 1, none⟩ = some (.int .i64 a1_1) ∧ w'.cell? ⟨gb497, 0, none⟩ = some (.int .i64 a2_0) ∧ w'.cell? ⟨gb497, 1, none⟩ = some (.int .i64 a2_1) ∧ w'.cell? ⟨gb498, 0, none⟩ = some (.int .i64 a3_0) ∧ w'.cell? ⟨gb498, 1, none⟩ = some (.int .i64 a3_1)) ∧ (w'.heap[gb496]? = some (.cells #[.int .i64 a1_0, .int .i64 a1_1] 26 (0, 0))) ∧ (w'.heap[gb497]? = some (.cells #[.int .i64 a2_0, .int .i64 a2_1] 26 (0, 0))) ∧ (w'.heap[gb498]? = some (.cells #[.int .i64 a3_0, .int .i64 a3_1] 26 (0, 0))) ∧ (w'.heap[s_]? = some (.cells #[.int .i64 0, .int .i64 0] 28 (0, 0))) ∧ (w.heap.size ≤ s_) ∧ (w.heap.size ≤ s_) ∧ (gb496 ≠ s_) ∧ (s_ ≠ gb496) ∧ (gb497 ≠ s_) ∧ (s_ ≠ gb497) ∧ (gb498 ≠ s_) ∧ (s_ ≠ gb498) ∧ (Below w.heap.size w w')) ?_ ?_
 rotate_left
 ·intro hJ2_4_6_9_13
  refine join_ (σ := Unit) 3 #[true, true, true, true, true, true, true, true, true, true, true, true, true, false, false, false] (fun s_ => [(18, .agg #[.int .i64 t499, .int .i64 t500]), (20, .agg #[.int .i64 t501, .int .i64 t502]), (22, .agg #[.int .i64 t503, .int .i64 t504]), (25, .tuple #[.agg #[.int .i64 t505, .int .i64 t506], .int .i64 t507]), (15, .tuple #[.agg #[.int .i64 t505, .int .i64 t506], .int .i64 t507]), (26, .agg #[.int .i64 t505, .int .i64 t506]), (27, .int .i64 t507)]) (fun s_ w' => (w'.cell? ⟨gb496, 0, none⟩ = some (.int .i64 a1_0) ∧ w'.cell? ⟨gb496, 1, none⟩ = some (.int .i64 a1_1) ∧ w'.cell? ⟨gb497, 0, none⟩ = some (.int .i64 a2_0) ∧ w'.cell? ⟨gb497, 1, none⟩ = some (.int .i64 a2_1) ∧ w'.cell? ⟨gb498, 0, none⟩ = some (.int .i64 a3_0) ∧ w'.cell? ⟨gb498, 1, none⟩ = some (.int .i64 a3_1)) ∧ (w'.heap[gb496]? = some (.cells #[.int .i64 a1_0, .int .i64 a1_1] 26 (0, 0))) ∧ (w'.heap[gb497]? = some (.cells #[.int .i64 a2_0, .int .i64 a2_1] 26 (0, 0))) ∧ (w'.heap[gb498]? = some (.cells #[.int .i64 a3_0, .int .i64 a3_1] 26 (0, 0))) ∧ (Below w.heap.size w w')) ?_ ?_
  rotate_left
  ·intro hJ2_4_6_9
   refine join_ (σ := Nat) 6 #[true, true, true, true, true, true, true, true, true, false, false, false, false, true, false, false] (fun s_ => [(18, .agg #[.int .i64 t499, .int .i64 t500]), (20, .agg #[.int .i64 t501, .int .i64 t502]), (22, .agg #[.int .i64 t503, .int .i64 t504]), (13, .pointer (some ⟨s_, 0, none⟩))]) (fun s_ w' => (w'.cell? ⟨gb496, 0, none⟩ = some (.int .i64 a1_0) ∧ w'.cell? ⟨gb496, 1, none⟩ = some (.int .i64 a1_1) ∧ w'.cell? ⟨gb497, 0, none⟩ = some (.int .i64 a2_0) ∧ w'.cell? ⟨gb497, 1, none⟩ = some (.int .i64 a2_1) ∧ w'.cell? ⟨gb498, 0, none⟩ = some (.int .i64 a3_0) ∧ w'.cell? ⟨gb498, 1, none⟩ = some (.int .i64 a3_1)) ∧ (w'.heap[gb496]? = some (.cells #[.int .i64 a1_0, .int .i64 a1_1] 26 (0, 0))) ∧ (w'.heap[gb497]? = some (.cells #[.int .i64 a2_0, .int .i64 a2_1] 26 (0, 0))) ∧ (w'.heap[gb498]? = some (.cells #[.int .i64 a3_0, .int .i64 a3_1] 26 (0, 0))) ∧ (w'.heap[s_]? = some (.cells #[.int .i64 0, .int .i64 0] 28 (0, 0))) ∧ (w.heap.size ≤ s_) ∧ (w.heap.size ≤ s_) ∧ (gb496 ≠ s_) ∧ (s_ ≠ gb496) ∧ (gb497 ≠ s_) ∧ (s_ ≠ gb497) ∧ (gb498 ≠ s_) ∧ (s_ ≠ gb498) ∧ (Below w.heap.size w w')) ?_ ?_
   rotate_left
   ·intro hJ2_4_6_13
    refine join_ (σ := Unit) 7 #[true, true, true, true, true, true, true, true, true, false, false, false, false, false, false, false] (fun s_ => [(18, .agg #[.int .i64 t499, .int .i64 t500]), (20, .agg #[.int .i64 t501, .int .i64 t502]), (22, .agg #[.int .i64 t503, .int .i64 t504])]) (fun s_ w' => (w'.cell? ⟨gb496, 0, none⟩ = some (.int .i64 a1_0) ∧ w'.cell? ⟨gb496, 1, none⟩ = some (.int .i64 a1_1) ∧ w'.cell? ⟨gb497, 0, none⟩ = some (.int .i64 a2_0) ∧ w'.cell? ⟨gb497, 1, none⟩ = some (.int .i64 a2_1) ∧ w'.cell? ⟨gb498, 0, none⟩ = some (.int .i64 a3_0) ∧ w'.cell? ⟨gb498, 1, none⟩ = some (.int .i64 a3_1)) ∧ (w'.heap[gb496]? = some (.cells #[.int .i64 a1_0, .int .i64 a1_1] 26 (0, 0))) ∧ (w'.heap[gb497]? = some (.cells #[.int .i64 a2_0, .int .i64 a2_1] 26 (0, 0))) ∧ (w'.heap[gb498]? = some (.cells #[.int .i64 a3_0, .int .i64 a3_1] 26 (0, 0))) ∧ (Below w.heap.size w w')) ?_ ?_
    rotate_left
    ·intro hJ2_4_6
     refine join_ (σ := Nat) 7 #[true, true, true, true, true, true, false, true, true, false, false, false, false, true, false, false] (fun s_ => [(18, .agg #[.int .i64 t499, .int .i64 t500]), (20, .agg #[.int .i64 t501, .int .i64 t502]), (13, .pointer (some ⟨s_, 0, none⟩))]) (fun s_ w' => (w'.cell? ⟨gb496, 0, none⟩ = some (.int .i64 a1_0) ∧ w'.cell? ⟨gb496, 1, none⟩ = some (.int .i64 a1_1) ∧ w'.cell? ⟨gb497, 0, none⟩ = some (.int .i64 a2_0) ∧ w'.cell? ⟨gb497, 1, none⟩ = some (.int .i64 a2_1) ∧ w'.cell? ⟨gb498, 0, none⟩ = some (.int .i64 a3_0) ∧ w'.cell? ⟨gb498, 1, none⟩ = some (.int .i64 a3_1)) ∧ (w'.heap[gb496]? = some (.cells #[.int .i64 a1_0, .int .i64 a1_1] 26 (0, 0))) ∧ (w'.heap[gb497]? = some (.cells #[.int .i64 a2_0, .int .i64 a2_1] 26 (0, 0))) ∧ (w'.heap[gb498]? = some (.cells #[.int .i64 a3_0, .int .i64 a3_1] 26 (0, 0))) ∧ (w'.heap[s_]? = some (.cells #[.int .i64 0, .int .i64 0] 28 (0, 0))) ∧ (w.heap.size ≤ s_) ∧ (w.heap.size ≤ s_) ∧ (gb496 ≠ s_) ∧ (s_ ≠ gb496) ∧ (gb497 ≠ s_) ∧ (s_ ≠ gb497) ∧ (gb498 ≠ s_) ∧ (s_ ≠ gb498) ∧ (Below w.heap.size w w')) ?_ ?_
     rotate_left
     ·intro hJ2_4_13
      refine join_ (σ := Unit) 8 #[true, true, true, true, true, true, false, true, true, false, false, false, false, false, false, false] (fun s_ => [(18, .agg #[.int .i64 t499, .int .i64 t500]), (20, .agg #[.int .i64 t501, .int .i64 t502])]) (fun s_ w' => (w'.cell? ⟨gb496, 0, none⟩ = some (.int .i64 a1_0) ∧ w'.cell? ⟨gb496, 1, none⟩ = some (.int .i64 a1_1) ∧ w'.cell? ⟨gb497, 0, none⟩ = some (.int .i64 a2_0) ∧ w'.cell? ⟨gb497, 1, none⟩ = some (.int .i64 a2_1) ∧ w'.cell? ⟨gb498, 0, none⟩ = some (.int .i64 a3_0) ∧ w'.cell? ⟨gb498, 1, none⟩ = some (.int .i64 a3_1)) ∧ (w'.heap[gb496]? = some (.cells #[.int .i64 a1_0, .int .i64 a1_1] 26 (0, 0))) ∧ (w'.heap[gb497]? = some (.cells #[.int .i64 a2_0, .int .i64 a2_1] 26 (0, 0))) ∧ (w'.heap[gb498]? = some (.cells #[.int .i64 a3_0, .int .i64 a3_1] 26 (0, 0))) ∧ (Below w.heap.size w w')) ?_ ?_
      rotate_left
      ·intro hJ2_4
       refine join_ (σ := Nat) 8 #[true, true, true, true, false, true, false, true, true, false, false, false, false, true, false, false] (fun s_ => [(18, .agg #[.int .i64 t499, .int .i64 t500]), (13, .pointer (some ⟨s_, 0, none⟩))]) (fun s_ w' => (w'.cell? ⟨gb496, 0, none⟩ = some (.int .i64 a1_0) ∧ w'.cell? ⟨gb496, 1, none⟩ = some (.int .i64 a1_1) ∧ w'.cell? ⟨gb497, 0, none⟩ = some (.int .i64 a2_0) ∧ w'.cell? ⟨gb497, 1, none⟩ = some (.int .i64 a2_1) ∧ w'.cell? ⟨gb498, 0, none⟩ = some (.int .i64 a3_0) ∧ w'.cell? ⟨gb498, 1, none⟩ = some (.int .i64 a3_1)) ∧ (w'.heap[gb496]? = some (.cells #[.int .i64 a1_0, .int .i64 a1_1] 26 (0, 0))) ∧ (w'.heap[gb497]? = some (.cells #[.int .i64 a2_0, .int .i64 a2_1] 26 (0, 0))) ∧ (w'.heap[gb498]? = some (.cells #[.int .i64 a3_0, .int .i64 a3_1] 26 (0, 0))) ∧ (w'.heap[s_]? = some (.cells #[.int .i64 0, .int .i64 0] 28 (0, 0))) ∧ (w.heap.size ≤ s_) ∧ (w.heap.size ≤ s_) ∧ (gb496 ≠ s_) ∧ (s_ ≠ gb496) ∧ (gb497 ≠ s_) ∧ (s_ ≠ gb497) ∧ (gb498 ≠ s_) ∧ (s_ ≠ gb498) ∧ (Below w.heap.size w w')) ?_ ?_
       rotate_left
       ·intro hJ2_13
        refine join_ (σ := Unit) 9 #[true, true, true, true, false, true, false, true, true, false, false, false, false, false, false, false] (fun s_ => [(18, .agg #[.int .i64 t499, .int .i64 t500])]) (fun s_ w' => (w'.cell? ⟨gb496, 0, none⟩ = some (.int .i64 a1_0) ∧ w'.cell? ⟨gb496, 1, none⟩ = some (.int .i64 a1_1) ∧ w'.cell? ⟨gb497, 0, none⟩ = some (.int .i64 a2_0) ∧ w'.cell? ⟨gb497, 1, none⟩ = some (.int .i64 a2_1) ∧ w'.cell? ⟨gb498, 0, none⟩ = some (.int .i64 a3_0) ∧ w'.cell? ⟨gb498, 1, none⟩ = some (.int .i64 a3_1)) ∧ (w'.heap[gb496]? = some (.cells #[.int .i64 a1_0, .int .i64 a1_1] 26 (0, 0))) ∧ (w'.heap[gb497]? = some (.cells #[.int .i64 a2_0, .int .i64 a2_1] 26 (0, 0))) ∧ (w'.heap[gb498]? = some (.cells #[.int .i64 a3_0, .int .i64 a3_1] 26 (0, 0))) ∧ (Below w.heap.size w w')) ?_ ?_
        rotate_left
        ·intro hJ2
         refine join_ (σ := Nat) 9 #[true, true, false, true, false, true, false, true, true, false, false, false, false, true, false, false] (fun s_ => [(13, .pointer (some ⟨s_, 0, none⟩))]) (fun s_ w' => (w'.cell? ⟨gb496, 0, none⟩ = some (.int .i64 a1_0) ∧ w'.cell? ⟨gb496, 1, none⟩ = some (.int .i64 a1_1) ∧ w'.cell? ⟨gb497, 0, none⟩ = some (.int .i64 a2_0) ∧ w'.cell? ⟨gb497, 1, none⟩ = some (.int .i64 a2_1) ∧ w'.cell? ⟨gb498, 0, none⟩ = some (.int .i64 a3_0) ∧ w'.cell? ⟨gb498, 1, none⟩ = some (.int .i64 a3_1)) ∧ (w'.heap[gb496]? = some (.cells #[.int .i64 a1_0, .int .i64 a1_1] 26 (0, 0))) ∧ (w'.heap[gb497]? = some (.cells #[.int .i64 a2_0, .int .i64 a2_1] 26 (0, 0))) ∧ (w'.heap[gb498]? = some (.cells #[.int .i64 a3_0, .int .i64 a3_1] 26 (0, 0))) ∧ (w'.heap[s_]? = some (.cells #[.int .i64 0, .int .i64 0] 28 (0, 0))) ∧ (w.heap.size ≤ s_) ∧ (w.heap.size ≤ s_) ∧ (gb496 ≠ s_) ∧ (s_ ≠ gb496) ∧ (gb497 ≠ s_) ∧ (s_ ≠ gb497) ∧ (gb498 ≠ s_) ∧ (s_ ≠ gb498) ∧ (Below w.heap.size w w')) ?_ ?_
         rotate_left
         ·intro hJ13
          refine two_ (i := 2) (j := 13) (Ni := some 18) (Nj := some 13) #[true, true, true, true, false, true, false, true, true, false, false, false, false, false, false, false] #[true, true, false, true, false, true, false, true, true, false, false, false, false, true, false, false] rfl rfl rfl rfl (two_of HT_.out (by kernel_rfl)) (by decide) (by decide) (fun K hK => ?_) (fun K hK => ?_)
          ·skip
           refine goes_ Try.func21 (by kernel_rfl) rfl #[.agg #[.int .i64 a1_0, .int .i64 a1_1]] (by rfl) rfl rfl al_ ?_
           with_reducible refine (comfitlaw02_chance.calls a1_0 a1_1 t499 t500 _ A7.out).mono ?_
           rintro e w16 ⟨rfl, hb⟩
           refine ⟨_, rfl, ?_⟩
           have n0_ := Aside0.mk (bkb_ BK496.out hb)
           have n1_ := Aside0.mk (bkb_ BK497.out hb)
           have n2_ := Aside0.mk (bkb_ BK498.out hb)
           have n3_ := Aside0.mk (below_step (hb_ HB.out) hb)
           clear BK496
           clear BK497
           clear BK498
           clear HB
           have BK496 := n0_
           have BK497 := n1_
           have BK498 := n2_
           have HB := n3_
           clear n0_ n1_ n2_ n3_
           (try clear hb)
           (try clear hb2)
           (try clear hk)
           (try clear hi)
           refine hK.out _ _ ⟨(blk_cell BK496.out 0).trans rfl, (blk_cell BK496.out 1).trans rfl, (blk_cell BK497.out 0).trans rfl, (blk_cell BK497.out 1).trans rfl, (blk_cell BK498.out 0).trans rfl, (blk_cell BK498.out 1).trans rfl⟩ (fun hHeld => ?_)
           clear hK K
           refine norm_ (a' := ?_) ?_ ?_
           rotate_left
           ·show Act.put _ (some 18) _ = _
            simp only [Act.put, List.setIfInBounds_toArray, List.set_cons_zero, List.set_cons_succ, i64_w, i32_w]
            rfl
           exact norm_ (by first | (simp only [putAll, Act.put, List.setIfInBounds_toArray, List.set_cons_zero, List.set_cons_succ]; done) | (simp only [putAll, Act.put, List.setIfInBounds_toArray, List.set_cons_zero, List.set_cons_succ]; rfl)) (hJ2 () _ ⟨hHeld, (bk_ BK496.out), (bk_ BK497.out), (bk_ BK498.out), (hb_ HB.out)⟩)
          ·skip
           refine box_step ?hg (N := 13) ?hd (cs := #[.int .i64 0, .int .i64 0]) (t := 28) ?hr ?_; (case hd => rfl); (case hg => rfl); (case hr => first | (go_simp; done) | (go_simp; rfl))
           intro gb508 hg w16 hbox hb
           have n0_ := Aside0.mk (bkb_ BK496.out hb)
           have n1_ := Aside0.mk (bkb_ BK497.out hb)
           have n2_ := Aside0.mk (bkb_ BK498.out hb)
           have n3_ := Aside0.mk (below_step (hb_ HB.out) hb)
           have n4_ := Aside0.mk (hbox)
           have n5_ := Aside0.mk ((by rw [hg]; exact (below_size (hb_ HB.out)) : w.heap.size ≤ gb508))
           have n6_ := Aside0.mk ((by rw [hg]; exact (below_size (hb_ HB.out)) : w.heap.size ≤ gb508))
           have n7_ := Aside0.mk ((by rw [hg]; exact Nat.ne_of_lt (bkl_ BK496.out) : gb496 ≠ gb508))
           have n8_ := Aside0.mk ((by rw [hg]; exact Nat.ne_of_gt (bkl_ BK496.out) : gb508 ≠ gb496))
           have n9_ := Aside0.mk ((by rw [hg]; exact Nat.ne_of_lt (bkl_ BK497.out) : gb497 ≠ gb508))
           have n10_ := Aside0.mk ((by rw [hg]; exact Nat.ne_of_gt (bkl_ BK497.out) : gb508 ≠ gb497))
           have n11_ := Aside0.mk ((by rw [hg]; exact Nat.ne_of_lt (bkl_ BK498.out) : gb498 ≠ gb508))
           have n12_ := Aside0.mk ((by rw [hg]; exact Nat.ne_of_gt (bkl_ BK498.out) : gb508 ≠ gb498))
           clear BK496
           clear BK497
           clear BK498
           clear HB
           have BK496 := n0_
           have BK497 := n1_
           have BK498 := n2_
           have HB := n3_
           have BK508 := n4_
           have GW508 := n5_
           have GE508 := n6_
           have NB496_508 := n7_
           have NB508_496 := n8_
           have NB497_508 := n9_
           have NB508_497 := n10_
           have NB498_508 := n11_
           have NB508_498 := n12_
           clear n0_ n1_ n2_ n3_ n4_ n5_ n6_ n7_ n8_ n9_ n10_ n11_ n12_
           clear hb hbox hg
           refine hK.out _ _ ⟨(blk_cell BK496.out 0).trans rfl, (blk_cell BK496.out 1).trans rfl, (blk_cell BK497.out 0).trans rfl, (blk_cell BK497.out 1).trans rfl, (blk_cell BK498.out 0).trans rfl, (blk_cell BK498.out 1).trans rfl⟩ (fun hHeld => ?_)
           clear hK K
           refine norm_ (a' := ?_) ?_ ?_
           rotate_left
           ·show Act.put _ (some 13) _ = _
            simp only [Act.put, List.setIfInBounds_toArray, List.set_cons_zero, List.set_cons_succ, i64_w, i32_w]
            rfl
           exact norm_ (by first | (simp only [putAll, Act.put, List.setIfInBounds_toArray, List.set_cons_zero, List.set_cons_succ]; done) | (simp only [putAll, Act.put, List.setIfInBounds_toArray, List.set_cons_zero, List.set_cons_succ]; rfl)) (hJ13 (gb508) _ ⟨hHeld, (bk_ BK496.out), (bk_ BK497.out), (bk_ BK498.out), (bk_ BK508.out), GW508.out, GE508.out, NB496_508.out, NB508_496.out, NB497_508.out, NB508_497.out, NB498_508.out, NB508_498.out, (hb_ HB.out)⟩)
         ·skip
          rintro gb508 w17 ⟨hS_, h0_, h1_, h2_, h3_, h4_, h5_, h6_, h7_, h8_, h9_, h10_, h11_, h12_⟩
          have n0_ : Aside0 (w17.heap[gb496]? = some (.cells #[.int .i64 a1_0, .int .i64 a1_1] 26 (0, 0))) := ⟨h0_⟩
          have n1_ : Aside0 (w17.heap[gb497]? = some (.cells #[.int .i64 a2_0, .int .i64 a2_1] 26 (0, 0))) := ⟨h1_⟩
          have n2_ : Aside0 (w17.heap[gb498]? = some (.cells #[.int .i64 a3_0, .int .i64 a3_1] 26 (0, 0))) := ⟨h2_⟩
          have n3_ : Aside0 (w17.heap[gb508]? = some (.cells #[.int .i64 0, .int .i64 0] 28 (0, 0))) := ⟨h3_⟩
          have n4_ : Aside0 (w.heap.size ≤ gb508) := ⟨h4_⟩
          have n5_ : Aside0 (w.heap.size ≤ gb508) := ⟨h5_⟩
          have n6_ : Aside0 (gb496 ≠ gb508) := ⟨h6_⟩
          have n7_ : Aside0 (gb508 ≠ gb496) := ⟨h7_⟩
          have n8_ : Aside0 (gb497 ≠ gb508) := ⟨h8_⟩
          have n9_ : Aside0 (gb508 ≠ gb497) := ⟨h9_⟩
          have n10_ : Aside0 (gb498 ≠ gb508) := ⟨h10_⟩
          have n11_ : Aside0 (gb508 ≠ gb498) := ⟨h11_⟩
          have n12_ : Aside0 (Below w.heap.size w w17) := ⟨h12_⟩
          clear BK496
          clear BK497
          clear BK498
          clear HB
          clear h0_ h1_ h2_ h3_ h4_ h5_ h6_ h7_ h8_ h9_ h10_ h11_ h12_
          have BK496 := n0_
          have BK497 := n1_
          have BK498 := n2_
          have BK508 := n3_
          have GW508 := n4_
          have GE508 := n5_
          have NB496_508 := n6_
          have NB508_496 := n7_
          have NB497_508 := n8_
          have NB508_497 := n9_
          have NB498_508 := n10_
          have NB508_498 := n11_
          have HB := n12_
          clear n0_ n1_ n2_ n3_ n4_ n5_ n6_ n7_ n8_ n9_ n10_ n11_ n12_
          have hHeld : w17.cell? ⟨gb496, 0, none⟩ = some (.int .i64 a1_0) ∧ w17.cell? ⟨gb496, 1, none⟩ = some (.int .i64 a1_1) ∧ w17.cell? ⟨gb497, 0, none⟩ = some (.int .i64 a2_0) ∧ w17.cell? ⟨gb497, 1, none⟩ = some (.int .i64 a2_1) ∧ w17.cell? ⟨gb498, 0, none⟩ = some (.int .i64 a3_0) ∧ w17.cell? ⟨gb498, 1, none⟩ = some (.int .i64 a3_1) := hS_
          refine norm_ (a' := ?_) ?_ ?_
          rotate_left
          ·simp only [putAll, Act.put, List.setIfInBounds_toArray, List.set_cons_zero, List.set_cons_succ]
           rfl
          refine one_ (i := 2) (N := some 18) #[true, true, true, true, false, true, false, true, true, false, false, false, false, true, false, false] rfl rfl (one_of HT_.out (by kernel_rfl)) (by decide) (fun K hK => ?_)
          refine goes_ Try.func21 (by kernel_rfl) rfl #[.agg #[.int .i64 a1_0, .int .i64 a1_1]] (by rfl) rfl rfl al_ ?_
          with_reducible refine (comfitlaw02_chance.calls a1_0 a1_1 t499 t500 _ A7.out).mono ?_
          rintro e w18 ⟨rfl, hb⟩
          refine ⟨_, rfl, ?_⟩
          have n0_ := Aside0.mk (bkb_ BK496.out hb)
          have n1_ := Aside0.mk (bkb_ BK497.out hb)
          have n2_ := Aside0.mk (bkb_ BK498.out hb)
          have n3_ := Aside0.mk (bkb_ BK508.out hb)
          have n4_ := Aside0.mk (below_step (hb_ HB.out) hb)
          clear BK496
          clear BK497
          clear BK498
          clear BK508
          clear HB
          have BK496 := n0_
          have BK497 := n1_
          have BK498 := n2_
          have BK508 := n3_
          have HB := n4_
          clear n0_ n1_ n2_ n3_ n4_
          (try clear hb)
          (try clear hb2)
          (try clear hk)
          (try clear hi)
          refine hK.out _ _ ⟨(blk_cell BK496.out 0).trans rfl, (blk_cell BK496.out 1).trans rfl, (blk_cell BK497.out 0).trans rfl, (blk_cell BK497.out 1).trans rfl, (blk_cell BK498.out 0).trans rfl, (blk_cell BK498.out 1).trans rfl⟩ (fun hHeld => ?_)
          clear hK K
          refine norm_ (a' := ?_) ?_ ?_
          rotate_left
          ·show Act.put _ (some 18) _ = _
           simp only [Act.put, List.setIfInBounds_toArray, List.set_cons_zero, List.set_cons_succ, i64_w, i32_w]
           rfl
          exact norm_ (by first | (simp only [putAll, Act.put, List.setIfInBounds_toArray, List.set_cons_zero, List.set_cons_succ]; done) | (simp only [putAll, Act.put, List.setIfInBounds_toArray, List.set_cons_zero, List.set_cons_succ]; rfl)) (hJ2_13 (gb508) _ ⟨hHeld, (bk_ BK496.out), (bk_ BK497.out), (bk_ BK498.out), (bk_ BK508.out), GW508.out, GE508.out, NB496_508.out, NB508_496.out, NB497_508.out, NB508_497.out, NB498_508.out, NB508_498.out, (hb_ HB.out)⟩)
        ·skip
         rintro _ w17 ⟨hS_, h0_, h1_, h2_, h3_⟩
         have n0_ : Aside0 (w17.heap[gb496]? = some (.cells #[.int .i64 a1_0, .int .i64 a1_1] 26 (0, 0))) := ⟨h0_⟩
         have n1_ : Aside0 (w17.heap[gb497]? = some (.cells #[.int .i64 a2_0, .int .i64 a2_1] 26 (0, 0))) := ⟨h1_⟩
         have n2_ : Aside0 (w17.heap[gb498]? = some (.cells #[.int .i64 a3_0, .int .i64 a3_1] 26 (0, 0))) := ⟨h2_⟩
         have n3_ : Aside0 (Below w.heap.size w w17) := ⟨h3_⟩
         clear BK496
         clear BK497
         clear BK498
         clear HB
         clear h0_ h1_ h2_ h3_
         have BK496 := n0_
         have BK497 := n1_
         have BK498 := n2_
         have HB := n3_
         clear n0_ n1_ n2_ n3_
         have hHeld : w17.cell? ⟨gb496, 0, none⟩ = some (.int .i64 a1_0) ∧ w17.cell? ⟨gb496, 1, none⟩ = some (.int .i64 a1_1) ∧ w17.cell? ⟨gb497, 0, none⟩ = some (.int .i64 a2_0) ∧ w17.cell? ⟨gb497, 1, none⟩ = some (.int .i64 a2_1) ∧ w17.cell? ⟨gb498, 0, none⟩ = some (.int .i64 a3_0) ∧ w17.cell? ⟨gb498, 1, none⟩ = some (.int .i64 a3_1) := hS_
         refine norm_ (a' := ?_) ?_ ?_
         rotate_left
         ·simp only [putAll, Act.put, List.setIfInBounds_toArray, List.set_cons_zero, List.set_cons_succ]
          rfl
         refine two_ (i := 4) (j := 13) (Ni := some 20) (Nj := some 13) #[true, true, true, true, true, true, false, true, true, false, false, false, false, false, false, false] #[true, true, true, true, false, true, false, true, true, false, false, false, false, true, false, false] rfl rfl rfl rfl (two_of HT_.out (by kernel_rfl)) (by decide) (by decide) (fun K hK => ?_) (fun K hK => ?_)
         ·skip
          refine goes_ Try.func21 (by kernel_rfl) rfl #[.agg #[.int .i64 a2_0, .int .i64 a2_1]] (by rfl) rfl rfl al_ ?_
          with_reducible refine (comfitlaw02_chance.calls a2_0 a2_1 t501 t502 _ A8.out).mono ?_
          rintro e w18 ⟨rfl, hb⟩
          refine ⟨_, rfl, ?_⟩
          have n0_ := Aside0.mk (bkb_ BK496.out hb)
          have n1_ := Aside0.mk (bkb_ BK497.out hb)
          have n2_ := Aside0.mk (bkb_ BK498.out hb)
          have n3_ := Aside0.mk (below_step (hb_ HB.out) hb)
          clear BK496
          clear BK497
          clear BK498
          clear HB
          have BK496 := n0_
          have BK497 := n1_
          have BK498 := n2_
          have HB := n3_
          clear n0_ n1_ n2_ n3_
          (try clear hb)
          (try clear hb2)
          (try clear hk)
          (try clear hi)
          refine hK.out _ _ ⟨(blk_cell BK496.out 0).trans rfl, (blk_cell BK496.out 1).trans rfl, (blk_cell BK497.out 0).trans rfl, (blk_cell BK497.out 1).trans rfl, (blk_cell BK498.out 0).trans rfl, (blk_cell BK498.out 1).trans rfl⟩ (fun hHeld => ?_)
          clear hK K
          refine norm_ (a' := ?_) ?_ ?_
          rotate_left
          ·show Act.put _ (some 20) _ = _
           simp only [Act.put, List.setIfInBounds_toArray, List.set_cons_zero, List.set_cons_succ, i64_w, i32_w]
           rfl
          exact norm_ (by first | (simp only [putAll, Act.put, List.setIfInBounds_toArray, List.set_cons_zero, List.set_cons_succ]; done) | (simp only [putAll, Act.put, List.setIfInBounds_toArray, List.set_cons_zero, List.set_cons_succ]; rfl)) (hJ2_4 () _ ⟨hHeld, (bk_ BK496.out), (bk_ BK497.out), (bk_ BK498.out), (hb_ HB.out)⟩)
         ·skip
          refine box_step ?hg (N := 13) ?hd (cs := #[.int .i64 0, .int .i64 0]) (t := 28) ?hr ?_; (case hd => rfl); (case hg => rfl); (case hr => first | (go_simp; done) | (go_simp; rfl))
          intro gb508 hg w18 hbox hb
          have n0_ := Aside0.mk (bkb_ BK496.out hb)
          have n1_ := Aside0.mk (bkb_ BK497.out hb)
          have n2_ := Aside0.mk (bkb_ BK498.out hb)
          have n3_ := Aside0.mk (below_step (hb_ HB.out) hb)
          have n4_ := Aside0.mk (hbox)
          have n5_ := Aside0.mk ((by rw [hg]; exact (below_size (hb_ HB.out)) : w.heap.size ≤ gb508))
          have n6_ := Aside0.mk ((by rw [hg]; exact (below_size (hb_ HB.out)) : w.heap.size ≤ gb508))
          have n7_ := Aside0.mk ((by rw [hg]; exact Nat.ne_of_lt (bkl_ BK496.out) : gb496 ≠ gb508))
          have n8_ := Aside0.mk ((by rw [hg]; exact Nat.ne_of_gt (bkl_ BK496.out) : gb508 ≠ gb496))
          have n9_ := Aside0.mk ((by rw [hg]; exact Nat.ne_of_lt (bkl_ BK497.out) : gb497 ≠ gb508))
          have n10_ := Aside0.mk ((by rw [hg]; exact Nat.ne_of_gt (bkl_ BK497.out) : gb508 ≠ gb497))
          have n11_ := Aside0.mk ((by rw [hg]; exact Nat.ne_of_lt (bkl_ BK498.out) : gb498 ≠ gb508))
          have n12_ := Aside0.mk ((by rw [hg]; exact Nat.ne_of_gt (bkl_ BK498.out) : gb508 ≠ gb498))
          clear BK496
          clear BK497
          clear BK498
          clear HB
          have BK496 := n0_
          have BK497 := n1_
          have BK498 := n2_
          have HB := n3_
          have BK508 := n4_
          have GW508 := n5_
          have GE508 := n6_
          have NB496_508 := n7_
          have NB508_496 := n8_
          have NB497_508 := n9_
          have NB508_497 := n10_
          have NB498_508 := n11_
          have NB508_498 := n12_
          clear n0_ n1_ n2_ n3_ n4_ n5_ n6_ n7_ n8_ n9_ n10_ n11_ n12_
          clear hb hbox hg
          refine hK.out _ _ ⟨(blk_cell BK496.out 0).trans rfl, (blk_cell BK496.out 1).trans rfl, (blk_cell BK497.out 0).trans rfl, (blk_cell BK497.out 1).trans rfl, (blk_cell BK498.out 0).trans rfl, (blk_cell BK498.out 1).trans rfl⟩ (fun hHeld => ?_)
          clear hK K
          refine norm_ (a' := ?_) ?_ ?_
          rotate_left
          ·show Act.put _ (some 13) _ = _
           simp only [Act.put, List.setIfInBounds_toArray, List.set_cons_zero, List.set_cons_succ, i64_w, i32_w]
           rfl
          exact norm_ (by first | (simp only [putAll, Act.put, List.setIfInBounds_toArray, List.set_cons_zero, List.set_cons_succ]; done) | (simp only [putAll, Act.put, List.setIfInBounds_toArray, List.set_cons_zero, List.set_cons_succ]; rfl)) (hJ2_13 (gb508) _ ⟨hHeld, (bk_ BK496.out), (bk_ BK497.out), (bk_ BK498.out), (bk_ BK508.out), GW508.out, GE508.out, NB496_508.out, NB508_496.out, NB497_508.out, NB508_497.out, NB498_508.out, NB508_498.out, (hb_ HB.out)⟩)
       ·skip
        rintro gb508 w18 ⟨hS_, h0_, h1_, h2_, h3_, h4_, h5_, h6_, h7_, h8_, h9_, h10_, h11_, h12_⟩
        have n0_ : Aside0 (w18.heap[gb496]? = some (.cells #[.int .i64 a1_0, .int .i64 a1_1] 26 (0, 0))) := ⟨h0_⟩
        have n1_ : Aside0 (w18.heap[gb497]? = some (.cells #[.int .i64 a2_0, .int .i64 a2_1] 26 (0, 0))) := ⟨h1_⟩
        have n2_ : Aside0 (w18.heap[gb498]? = some (.cells #[.int .i64 a3_0, .int .i64 a3_1] 26 (0, 0))) := ⟨h2_⟩
        have n3_ : Aside0 (w18.heap[gb508]? = some (.cells #[.int .i64 0, .int .i64 0] 28 (0, 0))) := ⟨h3_⟩
        have n4_ : Aside0 (w.heap.size ≤ gb508) := ⟨h4_⟩
        have n5_ : Aside0 (w.heap.size ≤ gb508) := ⟨h5_⟩
        have n6_ : Aside0 (gb496 ≠ gb508) := ⟨h6_⟩
        have n7_ : Aside0 (gb508 ≠ gb496) := ⟨h7_⟩
        have n8_ : Aside0 (gb497 ≠ gb508) := ⟨h8_⟩
        have n9_ : Aside0 (gb508 ≠ gb497) := ⟨h9_⟩
        have n10_ : Aside0 (gb498 ≠ gb508) := ⟨h10_⟩
        have n11_ : Aside0 (gb508 ≠ gb498) := ⟨h11_⟩
        have n12_ : Aside0 (Below w.heap.size w w18) := ⟨h12_⟩
        clear BK496
        clear BK497
        clear BK498
        clear HB
        clear h0_ h1_ h2_ h3_ h4_ h5_ h6_ h7_ h8_ h9_ h10_ h11_ h12_
        have BK496 := n0_
        have BK497 := n1_
        have BK498 := n2_
        have BK508 := n3_
        have GW508 := n4_
        have GE508 := n5_
        have NB496_508 := n6_
        have NB508_496 := n7_
        have NB497_508 := n8_
        have NB508_497 := n9_
        have NB498_508 := n10_
        have NB508_498 := n11_
        have HB := n12_
        clear n0_ n1_ n2_ n3_ n4_ n5_ n6_ n7_ n8_ n9_ n10_ n11_ n12_
        have hHeld : w18.cell? ⟨gb496, 0, none⟩ = some (.int .i64 a1_0) ∧ w18.cell? ⟨gb496, 1, none⟩ = some (.int .i64 a1_1) ∧ w18.cell? ⟨gb497, 0, none⟩ = some (.int .i64 a2_0) ∧ w18.cell? ⟨gb497, 1, none⟩ = some (.int .i64 a2_1) ∧ w18.cell? ⟨gb498, 0, none⟩ = some (.int .i64 a3_0) ∧ w18.cell? ⟨gb498, 1, none⟩ = some (.int .i64 a3_1) := hS_
        refine norm_ (a' := ?_) ?_ ?_
        rotate_left
        ·simp only [putAll, Act.put, List.setIfInBounds_toArray, List.set_cons_zero, List.set_cons_succ]
         rfl
        refine one_ (i := 4) (N := some 20) #[true, true, true, true, true, true, false, true, true, false, false, false, false, true, false, false] rfl rfl (one_of HT_.out (by kernel_rfl)) (by decide) (fun K hK => ?_)
        refine goes_ Try.func21 (by kernel_rfl) rfl #[.agg #[.int .i64 a2_0, .int .i64 a2_1]] (by rfl) rfl rfl al_ ?_
        with_reducible refine (comfitlaw02_chance.calls a2_0 a2_1 t501 t502 _ A8.out).mono ?_
        rintro e w19 ⟨rfl, hb⟩
        refine ⟨_, rfl, ?_⟩
        have n0_ := Aside0.mk (bkb_ BK496.out hb)
        have n1_ := Aside0.mk (bkb_ BK497.out hb)
        have n2_ := Aside0.mk (bkb_ BK498.out hb)
        have n3_ := Aside0.mk (bkb_ BK508.out hb)
        have n4_ := Aside0.mk (below_step (hb_ HB.out) hb)
        clear BK496
        clear BK497
        clear BK498
        clear BK508
        clear HB
        have BK496 := n0_
        have BK497 := n1_
        have BK498 := n2_
        have BK508 := n3_
        have HB := n4_
        clear n0_ n1_ n2_ n3_ n4_
        (try clear hb)
        (try clear hb2)
        (try clear hk)
        (try clear hi)
        refine hK.out _ _ ⟨(blk_cell BK496.out 0).trans rfl, (blk_cell BK496.out 1).trans rfl, (blk_cell BK497.out 0).trans rfl, (blk_cell BK497.out 1).trans rfl, (blk_cell BK498.out 0).trans rfl, (blk_cell BK498.out 1).trans rfl⟩ (fun hHeld => ?_)
        clear hK K
        refine norm_ (a' := ?_) ?_ ?_
        rotate_left
        ·show Act.put _ (some 20) _ = _
         simp only [Act.put, List.setIfInBounds_toArray, List.set_cons_zero, List.set_cons_succ, i64_w, i32_w]
         rfl
        exact norm_ (by first | (simp only [putAll, Act.put, List.setIfInBounds_toArray, List.set_cons_zero, List.set_cons_succ]; done) | (simp only [putAll, Act.put, List.setIfInBounds_toArray, List.set_cons_zero, List.set_cons_succ]; rfl)) (hJ2_4_13 (gb508) _ ⟨hHeld, (bk_ BK496.out), (bk_ BK497.out), (bk_ BK498.out), (bk_ BK508.out), GW508.out, GE508.out, NB496_508.out, NB508_496.out, NB497_508.out, NB508_497.out, NB498_508.out, NB508_498.out, (hb_ HB.out)⟩)
      ·skip
       rintro _ w18 ⟨hS_, h0_, h1_, h2_, h3_⟩
       have n0_ : Aside0 (w18.heap[gb496]? = some (.cells #[.int .i64 a1_0, .int .i64 a1_1] 26 (0, 0))) := ⟨h0_⟩
       have n1_ : Aside0 (w18.heap[gb497]? = some (.cells #[.int .i64 a2_0, .int .i64 a2_1] 26 (0, 0))) := ⟨h1_⟩
       have n2_ : Aside0 (w18.heap[gb498]? = some (.cells #[.int .i64 a3_0, .int .i64 a3_1] 26 (0, 0))) := ⟨h2_⟩
       have n3_ : Aside0 (Below w.heap.size w w18) := ⟨h3_⟩
       clear BK496
       clear BK497
       clear BK498
       clear HB
       clear h0_ h1_ h2_ h3_
       have BK496 := n0_
       have BK497 := n1_
       have BK498 := n2_
       have HB := n3_
       clear n0_ n1_ n2_ n3_
       have hHeld : w18.cell? ⟨gb496, 0, none⟩ = some (.int .i64 a1_0) ∧ w18.cell? ⟨gb496, 1, none⟩ = some (.int .i64 a1_1) ∧ w18.cell? ⟨gb497, 0, none⟩ = some (.int .i64 a2_0) ∧ w18.cell? ⟨gb497, 1, none⟩ = some (.int .i64 a2_1) ∧ w18.cell? ⟨gb498, 0, none⟩ = some (.int .i64 a3_0) ∧ w18.cell? ⟨gb498, 1, none⟩ = some (.int .i64 a3_1) := hS_
       refine norm_ (a' := ?_) ?_ ?_
       rotate_left
       ·simp only [putAll, Act.put, List.setIfInBounds_toArray, List.set_cons_zero, List.set_cons_succ]
        rfl
       refine two_ (i := 6) (j := 13) (Ni := some 22) (Nj := some 13) #[true, true, true, true, true, true, true, true, true, false, false, false, false, false, false, false] #[true, true, true, true, true, true, false, true, true, false, false, false, false, true, false, false] rfl rfl rfl rfl (two_of HT_.out (by kernel_rfl)) (by decide) (by decide) (fun K hK => ?_) (fun K hK => ?_)
       ·skip
        refine goes_ Try.func21 (by kernel_rfl) rfl #[.agg #[.int .i64 a3_0, .int .i64 a3_1]] (by rfl) rfl rfl al_ ?_
        with_reducible refine (comfitlaw02_chance.calls a3_0 a3_1 t503 t504 _ A9.out).mono ?_
        rintro e w19 ⟨rfl, hb⟩
        refine ⟨_, rfl, ?_⟩
        have n0_ := Aside0.mk (bkb_ BK496.out hb)
        have n1_ := Aside0.mk (bkb_ BK497.out hb)
        have n2_ := Aside0.mk (bkb_ BK498.out hb)
        have n3_ := Aside0.mk (below_step (hb_ HB.out) hb)
        clear BK496
        clear BK497
        clear BK498
        clear HB
        have BK496 := n0_
        have BK497 := n1_
        have BK498 := n2_
        have HB := n3_
        clear n0_ n1_ n2_ n3_
        (try clear hb)
        (try clear hb2)
        (try clear hk)
        (try clear hi)
        refine hK.out _ _ ⟨(blk_cell BK496.out 0).trans rfl, (blk_cell BK496.out 1).trans rfl, (blk_cell BK497.out 0).trans rfl, (blk_cell BK497.out 1).trans rfl, (blk_cell BK498.out 0).trans rfl, (blk_cell BK498.out 1).trans rfl⟩ (fun hHeld => ?_)
        clear hK K
        refine norm_ (a' := ?_) ?_ ?_
        rotate_left
        ·show Act.put _ (some 22) _ = _
         simp only [Act.put, List.setIfInBounds_toArray, List.set_cons_zero, List.set_cons_succ, i64_w, i32_w]
         rfl
        exact norm_ (by first | (simp only [putAll, Act.put, List.setIfInBounds_toArray, List.set_cons_zero, List.set_cons_succ]; done) | (simp only [putAll, Act.put, List.setIfInBounds_toArray, List.set_cons_zero, List.set_cons_succ]; rfl)) (hJ2_4_6 () _ ⟨hHeld, (bk_ BK496.out), (bk_ BK497.out), (bk_ BK498.out), (hb_ HB.out)⟩)
       ·skip
        refine box_step ?hg (N := 13) ?hd (cs := #[.int .i64 0, .int .i64 0]) (t := 28) ?hr ?_; (case hd => rfl); (case hg => rfl); (case hr => first | (go_simp; done) | (go_simp; rfl))
        intro gb508 hg w19 hbox hb
        have n0_ := Aside0.mk (bkb_ BK496.out hb)
        have n1_ := Aside0.mk (bkb_ BK497.out hb)
        have n2_ := Aside0.mk (bkb_ BK498.out hb)
        have n3_ := Aside0.mk (below_step (hb_ HB.out) hb)
        have n4_ := Aside0.mk (hbox)
        have n5_ := Aside0.mk ((by rw [hg]; exact (below_size (hb_ HB.out)) : w.heap.size ≤ gb508))
        have n6_ := Aside0.mk ((by rw [hg]; exact (below_size (hb_ HB.out)) : w.heap.size ≤ gb508))
        have n7_ := Aside0.mk ((by rw [hg]; exact Nat.ne_of_lt (bkl_ BK496.out) : gb496 ≠ gb508))
        have n8_ := Aside0.mk ((by rw [hg]; exact Nat.ne_of_gt (bkl_ BK496.out) : gb508 ≠ gb496))
        have n9_ := Aside0.mk ((by rw [hg]; exact Nat.ne_of_lt (bkl_ BK497.out) : gb497 ≠ gb508))
        have n10_ := Aside0.mk ((by rw [hg]; exact Nat.ne_of_gt (bkl_ BK497.out) : gb508 ≠ gb497))
        have n11_ := Aside0.mk ((by rw [hg]; exact Nat.ne_of_lt (bkl_ BK498.out) : gb498 ≠ gb508))
        have n12_ := Aside0.mk ((by rw [hg]; exact Nat.ne_of_gt (bkl_ BK498.out) : gb508 ≠ gb498))
        clear BK496
        clear BK497
        clear BK498
        clear HB
        have BK496 := n0_
        have BK497 := n1_
        have BK498 := n2_
        have HB := n3_
        have BK508 := n4_
        have GW508 := n5_
        have GE508 := n6_
        have NB496_508 := n7_
        have NB508_496 := n8_
        have NB497_508 := n9_
        have NB508_497 := n10_
        have NB498_508 := n11_
        have NB508_498 := n12_
        clear n0_ n1_ n2_ n3_ n4_ n5_ n6_ n7_ n8_ n9_ n10_ n11_ n12_
        clear hb hbox hg
        refine hK.out _ _ ⟨(blk_cell BK496.out 0).trans rfl, (blk_cell BK496.out 1).trans rfl, (blk_cell BK497.out 0).trans rfl, (blk_cell BK497.out 1).trans rfl, (blk_cell BK498.out 0).trans rfl, (blk_cell BK498.out 1).trans rfl⟩ (fun hHeld => ?_)
        clear hK K
        refine norm_ (a' := ?_) ?_ ?_
        rotate_left
        ·show Act.put _ (some 13) _ = _
         simp only [Act.put, List.setIfInBounds_toArray, List.set_cons_zero, List.set_cons_succ, i64_w, i32_w]
         rfl
        exact norm_ (by first | (simp only [putAll, Act.put, List.setIfInBounds_toArray, List.set_cons_zero, List.set_cons_succ]; done) | (simp only [putAll, Act.put, List.setIfInBounds_toArray, List.set_cons_zero, List.set_cons_succ]; rfl)) (hJ2_4_13 (gb508) _ ⟨hHeld, (bk_ BK496.out), (bk_ BK497.out), (bk_ BK498.out), (bk_ BK508.out), GW508.out, GE508.out, NB496_508.out, NB508_496.out, NB497_508.out, NB508_497.out, NB498_508.out, NB508_498.out, (hb_ HB.out)⟩)
     ·skip
      rintro gb508 w19 ⟨hS_, h0_, h1_, h2_, h3_, h4_, h5_, h6_, h7_, h8_, h9_, h10_, h11_, h12_⟩
      have n0_ : Aside0 (w19.heap[gb496]? = some (.cells #[.int .i64 a1_0, .int .i64 a1_1] 26 (0, 0))) := ⟨h0_⟩
      have n1_ : Aside0 (w19.heap[gb497]? = some (.cells #[.int .i64 a2_0, .int .i64 a2_1] 26 (0, 0))) := ⟨h1_⟩
      have n2_ : Aside0 (w19.heap[gb498]? = some (.cells #[.int .i64 a3_0, .int .i64 a3_1] 26 (0, 0))) := ⟨h2_⟩
      have n3_ : Aside0 (w19.heap[gb508]? = some (.cells #[.int .i64 0, .int .i64 0] 28 (0, 0))) := ⟨h3_⟩
      have n4_ : Aside0 (w.heap.size ≤ gb508) := ⟨h4_⟩
      have n5_ : Aside0 (w.heap.size ≤ gb508) := ⟨h5_⟩
      have n6_ : Aside0 (gb496 ≠ gb508) := ⟨h6_⟩
      have n7_ : Aside0 (gb508 ≠ gb496) := ⟨h7_⟩
      have n8_ : Aside0 (gb497 ≠ gb508) := ⟨h8_⟩
      have n9_ : Aside0 (gb508 ≠ gb497) := ⟨h9_⟩
      have n10_ : Aside0 (gb498 ≠ gb508) := ⟨h10_⟩
      have n11_ : Aside0 (gb508 ≠ gb498) := ⟨h11_⟩
      have n12_ : Aside0 (Below w.heap.size w w19) := ⟨h12_⟩
      clear BK496
      clear BK497
      clear BK498
      clear HB
      clear h0_ h1_ h2_ h3_ h4_ h5_ h6_ h7_ h8_ h9_ h10_ h11_ h12_
      have BK496 := n0_
      have BK497 := n1_
      have BK498 := n2_
      have BK508 := n3_
      have GW508 := n4_
      have GE508 := n5_
      have NB496_508 := n6_
      have NB508_496 := n7_
      have NB497_508 := n8_
      have NB508_497 := n9_
      have NB498_508 := n10_
      have NB508_498 := n11_
      have HB := n12_
      clear n0_ n1_ n2_ n3_ n4_ n5_ n6_ n7_ n8_ n9_ n10_ n11_ n12_
      have hHeld : w19.cell? ⟨gb496, 0, none⟩ = some (.int .i64 a1_0) ∧ w19.cell? ⟨gb496, 1, none⟩ = some (.int .i64 a1_1) ∧ w19.cell? ⟨gb497, 0, none⟩ = some (.int .i64 a2_0) ∧ w19.cell? ⟨gb497, 1, none⟩ = some (.int .i64 a2_1) ∧ w19.cell? ⟨gb498, 0, none⟩ = some (.int .i64 a3_0) ∧ w19.cell? ⟨gb498, 1, none⟩ = some (.int .i64 a3_1) := hS_
      refine norm_ (a' := ?_) ?_ ?_
      rotate_left
      ·simp only [putAll, Act.put, List.setIfInBounds_toArray, List.set_cons_zero, List.set_cons_succ]
       rfl
      refine one_ (i := 6) (N := some 22) #[true, true, true, true, true, true, true, true, true, false, false, false, false, true, false, false] rfl rfl (one_of HT_.out (by kernel_rfl)) (by decide) (fun K hK => ?_)
      refine goes_ Try.func21 (by kernel_rfl) rfl #[.agg #[.int .i64 a3_0, .int .i64 a3_1]] (by rfl) rfl rfl al_ ?_
      with_reducible refine (comfitlaw02_chance.calls a3_0 a3_1 t503 t504 _ A9.out).mono ?_
      rintro e w20 ⟨rfl, hb⟩
      refine ⟨_, rfl, ?_⟩
      have n0_ := Aside0.mk (bkb_ BK496.out hb)
      have n1_ := Aside0.mk (bkb_ BK497.out hb)
      have n2_ := Aside0.mk (bkb_ BK498.out hb)
      have n3_ := Aside0.mk (bkb_ BK508.out hb)
      have n4_ := Aside0.mk (below_step (hb_ HB.out) hb)
      clear BK496
      clear BK497
      clear BK498
      clear BK508
      clear HB
      have BK496 := n0_
      have BK497 := n1_
      have BK498 := n2_
      have BK508 := n3_
      have HB := n4_
      clear n0_ n1_ n2_ n3_ n4_
      (try clear hb)
      (try clear hb2)
      (try clear hk)
      (try clear hi)
      refine hK.out _ _ ⟨(blk_cell BK496.out 0).trans rfl, (blk_cell BK496.out 1).trans rfl, (blk_cell BK497.out 0).trans rfl, (blk_cell BK497.out 1).trans rfl, (blk_cell BK498.out 0).trans rfl, (blk_cell BK498.out 1).trans rfl⟩ (fun hHeld => ?_)
      clear hK K
      refine norm_ (a' := ?_) ?_ ?_
      rotate_left
      ·show Act.put _ (some 22) _ = _
       simp only [Act.put, List.setIfInBounds_toArray, List.set_cons_zero, List.set_cons_succ, i64_w, i32_w]
       rfl
      exact norm_ (by first | (simp only [putAll, Act.put, List.setIfInBounds_toArray, List.set_cons_zero, List.set_cons_succ]; done) | (simp only [putAll, Act.put, List.setIfInBounds_toArray, List.set_cons_zero, List.set_cons_succ]; rfl)) (hJ2_4_6_13 (gb508) _ ⟨hHeld, (bk_ BK496.out), (bk_ BK497.out), (bk_ BK498.out), (bk_ BK508.out), GW508.out, GE508.out, NB496_508.out, NB508_496.out, NB497_508.out, NB508_497.out, NB498_508.out, NB508_498.out, (hb_ HB.out)⟩)
    ·skip
     rintro _ w19 ⟨hS_, h0_, h1_, h2_, h3_⟩
     have n0_ : Aside0 (w19.heap[gb496]? = some (.cells #[.int .i64 a1_0, .int .i64 a1_1] 26 (0, 0))) := ⟨h0_⟩
     have n1_ : Aside0 (w19.heap[gb497]? = some (.cells #[.int .i64 a2_0, .int .i64 a2_1] 26 (0, 0))) := ⟨h1_⟩
     have n2_ : Aside0 (w19.heap[gb498]? = some (.cells #[.int .i64 a3_0, .int .i64 a3_1] 26 (0, 0))) := ⟨h2_⟩
     have n3_ : Aside0 (Below w.heap.size w w19) := ⟨h3_⟩
     clear BK496
     clear BK497
     clear BK498
     clear HB
     clear h0_ h1_ h2_ h3_
     have BK496 := n0_
     have BK497 := n1_
     have BK498 := n2_
     have HB := n3_
     clear n0_ n1_ n2_ n3_
     have hHeld : w19.cell? ⟨gb496, 0, none⟩ = some (.int .i64 a1_0) ∧ w19.cell? ⟨gb496, 1, none⟩ = some (.int .i64 a1_1) ∧ w19.cell? ⟨gb497, 0, none⟩ = some (.int .i64 a2_0) ∧ w19.cell? ⟨gb497, 1, none⟩ = some (.int .i64 a2_1) ∧ w19.cell? ⟨gb498, 0, none⟩ = some (.int .i64 a3_0) ∧ w19.cell? ⟨gb498, 1, none⟩ = some (.int .i64 a3_1) := hS_
     refine norm_ (a' := ?_) ?_ ?_
     rotate_left
     ·simp only [putAll, Act.put, List.setIfInBounds_toArray, List.set_cons_zero, List.set_cons_succ]
      rfl
     refine two_ (i := 9) (j := 13) (Ni := some 25) (Nj := some 13) #[true, true, true, true, true, true, true, true, true, true, false, false, false, false, false, false] #[true, true, true, true, true, true, true, true, true, false, false, false, false, true, false, false] rfl rfl rfl rfl (two_of HT_.out (by kernel_rfl)) (by decide) (by decide) (fun K hK => ?_) (fun K hK => ?_)
     ·skip
      refine goes_ Try.func40 (by kernel_rfl) rfl #[.int .i64 a0, .agg #[.int .i64 t499, .int .i64 t500], .agg #[.int .i64 t501, .int .i64 t502], .agg #[.int .i64 t503, .int .i64 t504], .int .i64 a4, .int .i64 a5] (by rfl) rfl rfl al_ ?_
      with_reducible refine (lots_Wise.calls k a0 t499 t500 t501 t502 t503 t504 a4 a5 t505 t506 t507 _ A10.out).mono ?_
      rintro e w20 ⟨rfl, hb⟩
      refine ⟨_, rfl, ?_⟩
      have n0_ := Aside0.mk (bkb_ BK496.out hb)
      have n1_ := Aside0.mk (bkb_ BK497.out hb)
      have n2_ := Aside0.mk (bkb_ BK498.out hb)
      have n3_ := Aside0.mk (below_step (hb_ HB.out) hb)
      clear BK496
      clear BK497
      clear BK498
      clear HB
      have BK496 := n0_
      have BK497 := n1_
      have BK498 := n2_
      have HB := n3_
      clear n0_ n1_ n2_ n3_
      (try clear hb)
      (try clear hb2)
      (try clear hk)
      (try clear hi)
      refine hK.out _ _ ⟨(blk_cell BK496.out 0).trans rfl, (blk_cell BK496.out 1).trans rfl, (blk_cell BK497.out 0).trans rfl, (blk_cell BK497.out 1).trans rfl, (blk_cell BK498.out 0).trans rfl, (blk_cell BK498.out 1).trans rfl⟩ (fun hHeld => ?_)
      clear hK K
      refine norm_ (a' := ?_) ?_ ?_
      rotate_left
      ·show Act.put _ (some 25) _ = _
       simp only [Act.put, List.setIfInBounds_toArray, List.set_cons_zero, List.set_cons_succ, i64_w, i32_w]
       rfl
      refine pure_ (i := 10) (N := some 15) (v := ?_) (a' := ?_) #[true, true, true, true, true, true, true, true, true, true, true, false, false, false, false, false] rfl rfl (any_of HT_.out (by kernel_rfl)) (fun _ _ _ h => h) (Or.inl ⟨by rfl, ?_⟩) ?_ ?_
      rotate_left
      ·intro w'
       go_simp
       with_reducible rfl
      rotate_left
      ·simp only [Act.put, List.setIfInBounds_toArray, List.set_cons_zero, List.set_cons_succ, i64_w, i32_w]
       rfl
      refine pure_ (i := 11) (N := some 26) (v := ?_) (a' := ?_) #[true, true, true, true, true, true, true, true, true, true, true, true, false, false, false, false] rfl rfl (any_of HT_.out (by kernel_rfl)) (fun _ _ _ h => h) (Or.inl ⟨by rfl, ?_⟩) ?_ ?_
      rotate_left
      ·intro w'
       go_simp
       with_reducible rfl
      rotate_left
      ·simp only [Act.put, List.setIfInBounds_toArray, List.set_cons_zero, List.set_cons_succ, i64_w, i32_w]
       rfl
      refine pure_ (i := 12) (N := some 27) (v := ?_) (a' := ?_) #[true, true, true, true, true, true, true, true, true, true, true, true, true, false, false, false] rfl rfl (any_of HT_.out (by kernel_rfl)) (fun _ _ _ h => h) (Or.inl ⟨by rfl, ?_⟩) ?_ ?_
      rotate_left
      ·intro w'
       go_simp
       with_reducible rfl
      rotate_left
      ·simp only [Act.put, List.setIfInBounds_toArray, List.set_cons_zero, List.set_cons_succ, i64_w, i32_w]
       rfl
      exact norm_ (by first | (simp only [putAll, Act.put, List.setIfInBounds_toArray, List.set_cons_zero, List.set_cons_succ]; done) | (simp only [putAll, Act.put, List.setIfInBounds_toArray, List.set_cons_zero, List.set_cons_succ]; rfl)) (hJ2_4_6_9 () _ ⟨hHeld, (bk_ BK496.out), (bk_ BK497.out), (bk_ BK498.out), (hb_ HB.out)⟩)
     ·skip
      refine box_step ?hg (N := 13) ?hd (cs := #[.int .i64 0, .int .i64 0]) (t := 28) ?hr ?_; (case hd => rfl); (case hg => rfl); (case hr => first | (go_simp; done) | (go_simp; rfl))
      intro gb508 hg w20 hbox hb
      have n0_ := Aside0.mk (bkb_ BK496.out hb)
      have n1_ := Aside0.mk (bkb_ BK497.out hb)
      have n2_ := Aside0.mk (bkb_ BK498.out hb)
      have n3_ := Aside0.mk (below_step (hb_ HB.out) hb)
      have n4_ := Aside0.mk (hbox)
      have n5_ := Aside0.mk ((by rw [hg]; exact (below_size (hb_ HB.out)) : w.heap.size ≤ gb508))
      have n6_ := Aside0.mk ((by rw [hg]; exact (below_size (hb_ HB.out)) : w.heap.size ≤ gb508))
      have n7_ := Aside0.mk ((by rw [hg]; exact Nat.ne_of_lt (bkl_ BK496.out) : gb496 ≠ gb508))
      have n8_ := Aside0.mk ((by rw [hg]; exact Nat.ne_of_gt (bkl_ BK496.out) : gb508 ≠ gb496))
      have n9_ := Aside0.mk ((by rw [hg]; exact Nat.ne_of_lt (bkl_ BK497.out) : gb497 ≠ gb508))
      have n10_ := Aside0.mk ((by rw [hg]; exact Nat.ne_of_gt (bkl_ BK497.out) : gb508 ≠ gb497))
      have n11_ := Aside0.mk ((by rw [hg]; exact Nat.ne_of_lt (bkl_ BK498.out) : gb498 ≠ gb508))
      have n12_ := Aside0.mk ((by rw [hg]; exact Nat.ne_of_gt (bkl_ BK498.out) : gb508 ≠ gb498))
      clear BK496
      clear BK497
      clear BK498
      clear HB
      have BK496 := n0_
      have BK497 := n1_
      have BK498 := n2_
      have HB := n3_
      have BK508 := n4_
      have GW508 := n5_
      have GE508 := n6_
      have NB496_508 := n7_
      have NB508_496 := n8_
      have NB497_508 := n9_
      have NB508_497 := n10_
      have NB498_508 := n11_
      have NB508_498 := n12_
      clear n0_ n1_ n2_ n3_ n4_ n5_ n6_ n7_ n8_ n9_ n10_ n11_ n12_
      clear hb hbox hg
      refine hK.out _ _ ⟨(blk_cell BK496.out 0).trans rfl, (blk_cell BK496.out 1).trans rfl, (blk_cell BK497.out 0).trans rfl, (blk_cell BK497.out 1).trans rfl, (blk_cell BK498.out 0).trans rfl, (blk_cell BK498.out 1).trans rfl⟩ (fun hHeld => ?_)
      clear hK K
      refine norm_ (a' := ?_) ?_ ?_
      rotate_left
      ·show Act.put _ (some 13) _ = _
       simp only [Act.put, List.setIfInBounds_toArray, List.set_cons_zero, List.set_cons_succ, i64_w, i32_w]
       rfl
      exact norm_ (by first | (simp only [putAll, Act.put, List.setIfInBounds_toArray, List.set_cons_zero, List.set_cons_succ]; done) | (simp only [putAll, Act.put, List.setIfInBounds_toArray, List.set_cons_zero, List.set_cons_succ]; rfl)) (hJ2_4_6_13 (gb508) _ ⟨hHeld, (bk_ BK496.out), (bk_ BK497.out), (bk_ BK498.out), (bk_ BK508.out), GW508.out, GE508.out, NB496_508.out, NB508_496.out, NB497_508.out, NB508_497.out, NB498_508.out, NB508_498.out, (hb_ HB.out)⟩)
   ·skip
    rintro gb508 w20 ⟨hS_, h0_, h1_, h2_, h3_, h4_, h5_, h6_, h7_, h8_, h9_, h10_, h11_, h12_⟩
    have n0_ : Aside0 (w20.heap[gb496]? = some (.cells #[.int .i64 a1_0, .int .i64 a1_1] 26 (0, 0))) := ⟨h0_⟩
    have n1_ : Aside0 (w20.heap[gb497]? = some (.cells #[.int .i64 a2_0, .int .i64 a2_1] 26 (0, 0))) := ⟨h1_⟩
    have n2_ : Aside0 (w20.heap[gb498]? = some (.cells #[.int .i64 a3_0, .int .i64 a3_1] 26 (0, 0))) := ⟨h2_⟩
    have n3_ : Aside0 (w20.heap[gb508]? = some (.cells #[.int .i64 0, .int .i64 0] 28 (0, 0))) := ⟨h3_⟩
    have n4_ : Aside0 (w.heap.size ≤ gb508) := ⟨h4_⟩
    have n5_ : Aside0 (w.heap.size ≤ gb508) := ⟨h5_⟩
    have n6_ : Aside0 (gb496 ≠ gb508) := ⟨h6_⟩
    have n7_ : Aside0 (gb508 ≠ gb496) := ⟨h7_⟩
    have n8_ : Aside0 (gb497 ≠ gb508) := ⟨h8_⟩
    have n9_ : Aside0 (gb508 ≠ gb497) := ⟨h9_⟩
    have n10_ : Aside0 (gb498 ≠ gb508) := ⟨h10_⟩
    have n11_ : Aside0 (gb508 ≠ gb498) := ⟨h11_⟩
    have n12_ : Aside0 (Below w.heap.size w w20) := ⟨h12_⟩
    clear BK496
    clear BK497
    clear BK498
    clear HB
    clear h0_ h1_ h2_ h3_ h4_ h5_ h6_ h7_ h8_ h9_ h10_ h11_ h12_
    have BK496 := n0_
    have BK497 := n1_
    have BK498 := n2_
    have BK508 := n3_
    have GW508 := n4_
    have GE508 := n5_
    have NB496_508 := n6_
    have NB508_496 := n7_
    have NB497_508 := n8_
    have NB508_497 := n9_
    have NB498_508 := n10_
    have NB508_498 := n11_
    have HB := n12_
    clear n0_ n1_ n2_ n3_ n4_ n5_ n6_ n7_ n8_ n9_ n10_ n11_ n12_
    have hHeld : w20.cell? ⟨gb496, 0, none⟩ = some (.int .i64 a1_0) ∧ w20.cell? ⟨gb496, 1, none⟩ = some (.int .i64 a1_1) ∧ w20.cell? ⟨gb497, 0, none⟩ = some (.int .i64 a2_0) ∧ w20.cell? ⟨gb497, 1, none⟩ = some (.int .i64 a2_1) ∧ w20.cell? ⟨gb498, 0, none⟩ = some (.int .i64 a3_0) ∧ w20.cell? ⟨gb498, 1, none⟩ = some (.int .i64 a3_1) := hS_
    refine norm_ (a' := ?_) ?_ ?_
    rotate_left
    ·simp only [putAll, Act.put, List.setIfInBounds_toArray, List.set_cons_zero, List.set_cons_succ]
     rfl
    refine one_ (i := 9) (N := some 25) #[true, true, true, true, true, true, true, true, true, true, false, false, false, true, false, false] rfl rfl (one_of HT_.out (by kernel_rfl)) (by decide) (fun K hK => ?_)
    refine goes_ Try.func40 (by kernel_rfl) rfl #[.int .i64 a0, .agg #[.int .i64 t499, .int .i64 t500], .agg #[.int .i64 t501, .int .i64 t502], .agg #[.int .i64 t503, .int .i64 t504], .int .i64 a4, .int .i64 a5] (by rfl) rfl rfl al_ ?_
    with_reducible refine (lots_Wise.calls k a0 t499 t500 t501 t502 t503 t504 a4 a5 t505 t506 t507 _ A10.out).mono ?_
    rintro e w21 ⟨rfl, hb⟩
    refine ⟨_, rfl, ?_⟩
    have n0_ := Aside0.mk (bkb_ BK496.out hb)
    have n1_ := Aside0.mk (bkb_ BK497.out hb)
    have n2_ := Aside0.mk (bkb_ BK498.out hb)
    have n3_ := Aside0.mk (bkb_ BK508.out hb)
    have n4_ := Aside0.mk (below_step (hb_ HB.out) hb)
    clear BK496
    clear BK497
    clear BK498
    clear BK508
    clear HB
    have BK496 := n0_
    have BK497 := n1_
    have BK498 := n2_
    have BK508 := n3_
    have HB := n4_
    clear n0_ n1_ n2_ n3_ n4_
    (try clear hb)
    (try clear hb2)
    (try clear hk)
    (try clear hi)
    refine hK.out _ _ ⟨(blk_cell BK496.out 0).trans rfl, (blk_cell BK496.out 1).trans rfl, (blk_cell BK497.out 0).trans rfl, (blk_cell BK497.out 1).trans rfl, (blk_cell BK498.out 0).trans rfl, (blk_cell BK498.out 1).trans rfl⟩ (fun hHeld => ?_)
    clear hK K
    refine norm_ (a' := ?_) ?_ ?_
    rotate_left
    ·show Act.put _ (some 25) _ = _
     simp only [Act.put, List.setIfInBounds_toArray, List.set_cons_zero, List.set_cons_succ, i64_w, i32_w]
     rfl
    refine pure_ (i := 10) (N := some 15) (v := ?_) (a' := ?_) #[true, true, true, true, true, true, true, true, true, true, true, false, false, true, false, false] rfl rfl (any_of HT_.out (by kernel_rfl)) (fun _ _ _ h => h) (Or.inl ⟨by rfl, ?_⟩) ?_ ?_
    rotate_left
    ·intro w'
     go_simp
     with_reducible rfl
    rotate_left
    ·simp only [Act.put, List.setIfInBounds_toArray, List.set_cons_zero, List.set_cons_succ, i64_w, i32_w]
     rfl
    refine pure_ (i := 11) (N := some 26) (v := ?_) (a' := ?_) #[true, true, true, true, true, true, true, true, true, true, true, true, false, true, false, false] rfl rfl (any_of HT_.out (by kernel_rfl)) (fun _ _ _ h => h) (Or.inl ⟨by rfl, ?_⟩) ?_ ?_
    rotate_left
    ·intro w'
     go_simp
     with_reducible rfl
    rotate_left
    ·simp only [Act.put, List.setIfInBounds_toArray, List.set_cons_zero, List.set_cons_succ, i64_w, i32_w]
     rfl
    refine pure_ (i := 12) (N := some 27) (v := ?_) (a' := ?_) #[true, true, true, true, true, true, true, true, true, true, true, true, true, true, false, false] rfl rfl (any_of HT_.out (by kernel_rfl)) (fun _ _ _ h => h) (Or.inl ⟨by rfl, ?_⟩) ?_ ?_
    rotate_left
    ·intro w'
     go_simp
     with_reducible rfl
    rotate_left
    ·simp only [Act.put, List.setIfInBounds_toArray, List.set_cons_zero, List.set_cons_succ, i64_w, i32_w]
     rfl
    exact norm_ (by first | (simp only [putAll, Act.put, List.setIfInBounds_toArray, List.set_cons_zero, List.set_cons_succ]; done) | (simp only [putAll, Act.put, List.setIfInBounds_toArray, List.set_cons_zero, List.set_cons_succ]; rfl)) (hJ2_4_6_9_13 (gb508) _ ⟨hHeld, (bk_ BK496.out), (bk_ BK497.out), (bk_ BK498.out), (bk_ BK508.out), GW508.out, GE508.out, NB496_508.out, NB508_496.out, NB497_508.out, NB508_497.out, NB498_508.out, NB508_498.out, (hb_ HB.out)⟩)
  ·skip
   rintro _ w20 ⟨hS_, h0_, h1_, h2_, h3_⟩
   have n0_ : Aside0 (w20.heap[gb496]? = some (.cells #[.int .i64 a1_0, .int .i64 a1_1] 26 (0, 0))) := ⟨h0_⟩
   have n1_ : Aside0 (w20.heap[gb497]? = some (.cells #[.int .i64 a2_0, .int .i64 a2_1] 26 (0, 0))) := ⟨h1_⟩
   have n2_ : Aside0 (w20.heap[gb498]? = some (.cells #[.int .i64 a3_0, .int .i64 a3_1] 26 (0, 0))) := ⟨h2_⟩
   have n3_ : Aside0 (Below w.heap.size w w20) := ⟨h3_⟩
   clear BK496
   clear BK497
   clear BK498
   clear HB
   clear h0_ h1_ h2_ h3_
   have BK496 := n0_
   have BK497 := n1_
   have BK498 := n2_
   have HB := n3_
   clear n0_ n1_ n2_ n3_
   have hHeld : w20.cell? ⟨gb496, 0, none⟩ = some (.int .i64 a1_0) ∧ w20.cell? ⟨gb496, 1, none⟩ = some (.int .i64 a1_1) ∧ w20.cell? ⟨gb497, 0, none⟩ = some (.int .i64 a2_0) ∧ w20.cell? ⟨gb497, 1, none⟩ = some (.int .i64 a2_1) ∧ w20.cell? ⟨gb498, 0, none⟩ = some (.int .i64 a3_0) ∧ w20.cell? ⟨gb498, 1, none⟩ = some (.int .i64 a3_1) := hS_
   refine norm_ (a' := ?_) ?_ ?_
   rotate_left
   ·simp only [putAll, Act.put, List.setIfInBounds_toArray, List.set_cons_zero, List.set_cons_succ]
    rfl
   refine one_ (i := 13) (N := some 13) #[true, true, true, true, true, true, true, true, true, true, true, true, true, true, false, false] rfl rfl (one_of HT_.out (by kernel_rfl)) (by decide) (fun K hK => ?_)
   refine box_step ?hg (N := 13) ?hd (cs := #[.int .i64 0, .int .i64 0]) (t := 28) ?hr ?_; (case hd => rfl); (case hg => rfl); (case hr => first | (go_simp; done) | (go_simp; rfl))
   intro gb508 hg w21 hbox hb
   have n0_ := Aside0.mk (bkb_ BK496.out hb)
   have n1_ := Aside0.mk (bkb_ BK497.out hb)
   have n2_ := Aside0.mk (bkb_ BK498.out hb)
   have n3_ := Aside0.mk (below_step (hb_ HB.out) hb)
   have n4_ := Aside0.mk (hbox)
   have n5_ := Aside0.mk ((by rw [hg]; exact (below_size (hb_ HB.out)) : w.heap.size ≤ gb508))
   have n6_ := Aside0.mk ((by rw [hg]; exact (below_size (hb_ HB.out)) : w.heap.size ≤ gb508))
   have n7_ := Aside0.mk ((by rw [hg]; exact Nat.ne_of_lt (bkl_ BK496.out) : gb496 ≠ gb508))
   have n8_ := Aside0.mk ((by rw [hg]; exact Nat.ne_of_gt (bkl_ BK496.out) : gb508 ≠ gb496))
   have n9_ := Aside0.mk ((by rw [hg]; exact Nat.ne_of_lt (bkl_ BK497.out) : gb497 ≠ gb508))
   have n10_ := Aside0.mk ((by rw [hg]; exact Nat.ne_of_gt (bkl_ BK497.out) : gb508 ≠ gb497))
   have n11_ := Aside0.mk ((by rw [hg]; exact Nat.ne_of_lt (bkl_ BK498.out) : gb498 ≠ gb508))
   have n12_ := Aside0.mk ((by rw [hg]; exact Nat.ne_of_gt (bkl_ BK498.out) : gb508 ≠ gb498))
   clear BK496
   clear BK497
   clear BK498
   clear HB
   have BK496 := n0_
   have BK497 := n1_
   have BK498 := n2_
   have HB := n3_
   have BK508 := n4_
   have GW508 := n5_
   have GE508 := n6_
   have NB496_508 := n7_
   have NB508_496 := n8_
   have NB497_508 := n9_
   have NB508_497 := n10_
   have NB498_508 := n11_
   have NB508_498 := n12_
   clear n0_ n1_ n2_ n3_ n4_ n5_ n6_ n7_ n8_ n9_ n10_ n11_ n12_
   clear hb hbox hg
   refine hK.out _ _ ⟨(blk_cell BK496.out 0).trans rfl, (blk_cell BK496.out 1).trans rfl, (blk_cell BK497.out 0).trans rfl, (blk_cell BK497.out 1).trans rfl, (blk_cell BK498.out 0).trans rfl, (blk_cell BK498.out 1).trans rfl⟩ (fun hHeld => ?_)
   clear hK K
   refine norm_ (a' := ?_) ?_ ?_
   rotate_left
   ·show Act.put _ (some 13) _ = _
    simp only [Act.put, List.setIfInBounds_toArray, List.set_cons_zero, List.set_cons_succ, i64_w, i32_w]
    rfl
   exact norm_ (by first | (simp only [putAll, Act.put, List.setIfInBounds_toArray, List.set_cons_zero, List.set_cons_succ]; done) | (simp only [putAll, Act.put, List.setIfInBounds_toArray, List.set_cons_zero, List.set_cons_succ]; rfl)) (hJ2_4_6_9_13 (gb508) _ ⟨hHeld, (bk_ BK496.out), (bk_ BK497.out), (bk_ BK498.out), (bk_ BK508.out), GW508.out, GE508.out, NB496_508.out, NB508_496.out, NB497_508.out, NB508_497.out, NB498_508.out, NB508_498.out, (hb_ HB.out)⟩)
 rintro gb508 w21 ⟨hS_, h0_, h1_, h2_, h3_, h4_, h5_, h6_, h7_, h8_, h9_, h10_, h11_, h12_⟩
 have n0_ : Aside0 (w21.heap[gb496]? = some (.cells #[.int .i64 a1_0, .int .i64 a1_1] 26 (0, 0))) := ⟨h0_⟩
 have n1_ : Aside0 (w21.heap[gb497]? = some (.cells #[.int .i64 a2_0, .int .i64 a2_1] 26 (0, 0))) := ⟨h1_⟩
 have n2_ : Aside0 (w21.heap[gb498]? = some (.cells #[.int .i64 a3_0, .int .i64 a3_1] 26 (0, 0))) := ⟨h2_⟩
 have n3_ : Aside0 (w21.heap[gb508]? = some (.cells #[.int .i64 0, .int .i64 0] 28 (0, 0))) := ⟨h3_⟩
 have n4_ : Aside0 (w.heap.size ≤ gb508) := ⟨h4_⟩
 have n5_ : Aside0 (w.heap.size ≤ gb508) := ⟨h5_⟩
 have n6_ : Aside0 (gb496 ≠ gb508) := ⟨h6_⟩
 have n7_ : Aside0 (gb508 ≠ gb496) := ⟨h7_⟩
 have n8_ : Aside0 (gb497 ≠ gb508) := ⟨h8_⟩
 have n9_ : Aside0 (gb508 ≠ gb497) := ⟨h9_⟩
 have n10_ : Aside0 (gb498 ≠ gb508) := ⟨h10_⟩
 have n11_ : Aside0 (gb508 ≠ gb498) := ⟨h11_⟩
 have n12_ : Aside0 (Below w.heap.size w w21) := ⟨h12_⟩
 clear BK496
 clear BK497
 clear BK498
 clear HB
 clear h0_ h1_ h2_ h3_ h4_ h5_ h6_ h7_ h8_ h9_ h10_ h11_ h12_
 have BK496 := n0_
 have BK497 := n1_
 have BK498 := n2_
 have BK508 := n3_
 have GW508 := n4_
 have GE508 := n5_
 have NB496_508 := n6_
 have NB508_496 := n7_
 have NB497_508 := n8_
 have NB508_497 := n9_
 have NB498_508 := n10_
 have NB508_498 := n11_
 have HB := n12_
 clear n0_ n1_ n2_ n3_ n4_ n5_ n6_ n7_ n8_ n9_ n10_ n11_ n12_
 have hHeld : w21.cell? ⟨gb496, 0, none⟩ = some (.int .i64 a1_0) ∧ w21.cell? ⟨gb496, 1, none⟩ = some (.int .i64 a1_1) ∧ w21.cell? ⟨gb497, 0, none⟩ = some (.int .i64 a2_0) ∧ w21.cell? ⟨gb497, 1, none⟩ = some (.int .i64 a2_1) ∧ w21.cell? ⟨gb498, 0, none⟩ = some (.int .i64 a3_0) ∧ w21.cell? ⟨gb498, 1, none⟩ = some (.int .i64 a3_1) := hS_
 refine norm_ (a' := ?_) ?_ ?_
 rotate_left
 ·simp only [putAll, Act.put, List.setIfInBounds_toArray, List.set_cons_zero, List.set_cons_succ]
  rfl
 refine one_ (i := 14) (N := none) #[true, true, true, true, true, true, true, true, true, true, true, true, true, true, true, false] rfl rfl (one_of HT_.out (by kernel_rfl)) (by decide) (fun K hK => ?_)
 have hs22 : w21.cell? ⟨gb508, 0, none⟩ = some (.int .i64 0) := (blk_cell BK508.out 0).trans rfl
 have hfs22 := blk_frozen BK508.out 0
 have hns22_0 := NB496_508.out
 have hns22_1 := NB497_508.out
 have hns22_2 := NB498_508.out
 have hms22_0 := NB508_496.out
 have hms22_1 := NB508_497.out
 have hms22_2 := NB508_498.out
 have hs23 : w21.cell? ⟨gb508, 1, none⟩ = some (.int .i64 0) := (blk_cell BK508.out 1).trans rfl
 have hfs23 := blk_frozen BK508.out 1
 have hns23_0 := NB496_508.out
 have hns23_1 := NB497_508.out
 have hns23_2 := NB498_508.out
 have hms23_0 := NB508_496.out
 have hms23_1 := NB508_497.out
 have hms23_2 := NB508_498.out
 refine skip_ (w1 := ?_) (by rfl) rfl ?_ ?_
 rotate_left
 ·go_simp
  rfl
 refine hK.out _ _ ⟨((cell_far (p := ⟨gb508, _, none⟩) NB496_508.out _).trans (((cell_far (p := ⟨gb508, _, none⟩) NB496_508.out _).trans (hHeld.1)))), ((cell_far (p := ⟨gb508, _, none⟩) NB496_508.out _).trans (((cell_far (p := ⟨gb508, _, none⟩) NB496_508.out _).trans (hHeld.2.1)))), ((cell_far (p := ⟨gb508, _, none⟩) NB497_508.out _).trans (((cell_far (p := ⟨gb508, _, none⟩) NB497_508.out _).trans (hHeld.2.2.1)))), ((cell_far (p := ⟨gb508, _, none⟩) NB497_508.out _).trans (((cell_far (p := ⟨gb508, _, none⟩) NB497_508.out _).trans (hHeld.2.2.2.1)))), ((cell_far (p := ⟨gb508, _, none⟩) NB498_508.out _).trans (((cell_far (p := ⟨gb508, _, none⟩) NB498_508.out _).trans (hHeld.2.2.2.2.1)))), ((cell_far (p := ⟨gb508, _, none⟩) NB498_508.out _).trans (((cell_far (p := ⟨gb508, _, none⟩) NB498_508.out _).trans (hHeld.2.2.2.2.2))))⟩ (fun hHeld => ?_)
 clear hK K
 refine pure_ (i := 15) (N := some 14) (v := ?_) (a' := ?_) #[true, true, true, true, true, true, true, true, true, true, true, true, true, true, true, true] rfl rfl (any_of HT_.out (by kernel_rfl)) (fun _ _ _ h => h) (Or.inl ⟨by rfl, ?_⟩) ?_ ?_
 rotate_left
 ·intro w'
  go_simp
  with_reducible rfl
 rotate_left
 ·simp only [Act.put, List.setIfInBounds_toArray, List.set_cons_zero, List.set_cons_succ, i64_w, i32_w]
  rfl
 refine done_ (done_of HT_.out (by kernel_rfl)) ?_
 go_upto_region 2 with (fail)
 go_cut [67] (fun v67 wc => ∃ (kq : Nat) (x67_10 : Bool), v67 = .bool x67_10 ∧ Aside0 (comfitlaw02_LotsWise.j0 kq a0 a4 a5 t507 x67_10 a1_0 a1_1 a2_0 a2_1 a3_0 a3_1 t505 t506 = some r) ∧ Aside0 (kq ≤ k) ∧ Aside0 (wc.heap[gb496]? = some (.cells #[.int .i64 a1_0, .int .i64 a1_1] 26 (0, 0))) ∧ Aside0 (wc.heap[gb497]? = some (.cells #[.int .i64 a2_0, .int .i64 a2_1] 26 (0, 0))) ∧ Aside0 (wc.heap[gb498]? = some (.cells #[.int .i64 a3_0, .int .i64 a3_1] 26 (0, 0))) ∧ Aside0 (wc.heap[gb508]? = some (.cells #[.int .i64 t505, .int .i64 t506] 28 (0, 0))) ∧ Aside0 (Below w.heap.size w wc))
 case first =>
  have H := HC11.out
  clear HC11
  by_cases c24 : a0 < 1
  ·rw [if_pos c24] at H
   have c24b0 : decide (a0 < 1) = true := decide_eq_true c24
   clear c24
   (first | rw [c24b0] | (simp only [i64_w, i32_w]; rw [c24b0]) | skip)
   have H' := Aside0.mk H
   clear H
   go_wp2
   go_meet
   case rel => exact ⟨_, (true), (by first | rfl | (simp; done) | (simp [*]; done)), H', ⟨by first | omega | exact Nat.le_refl _⟩, ⟨by (with_reducible repeat (first | refine blk_drewN ?_ _ | refine blk_drew ?_ | refine blk_alloc ?_ _)); refine blk_far ?_ NB496_508.out _; (with_reducible repeat (first | refine blk_drewN ?_ _ | refine blk_drew ?_ | refine blk_alloc ?_ _)); refine blk_far ?_ NB496_508.out _; (with_reducible repeat (first | refine blk_drewN ?_ _ | refine blk_drew ?_ | refine blk_alloc ?_ _)); exact BK496.out⟩, ⟨by (with_reducible repeat (first | refine blk_drewN ?_ _ | refine blk_drew ?_ | refine blk_alloc ?_ _)); refine blk_far ?_ NB497_508.out _; (with_reducible repeat (first | refine blk_drewN ?_ _ | refine blk_drew ?_ | refine blk_alloc ?_ _)); refine blk_far ?_ NB497_508.out _; (with_reducible repeat (first | refine blk_drewN ?_ _ | refine blk_drew ?_ | refine blk_alloc ?_ _)); exact BK497.out⟩, ⟨by (with_reducible repeat (first | refine blk_drewN ?_ _ | refine blk_drew ?_ | refine blk_alloc ?_ _)); refine blk_far ?_ NB498_508.out _; (with_reducible repeat (first | refine blk_drewN ?_ _ | refine blk_drew ?_ | refine blk_alloc ?_ _)); refine blk_far ?_ NB498_508.out _; (with_reducible repeat (first | refine blk_drewN ?_ _ | refine blk_drew ?_ | refine blk_alloc ?_ _)); exact BK498.out⟩, ⟨by (with_reducible repeat (first | refine blk_drewN ?_ _ | refine blk_drew ?_ | refine blk_alloc ?_ _)); refine blk_put (cs := #[.int .i64 t505, .int .i64 0]) ?_ 1 _ rfl; (with_reducible repeat (first | refine blk_drewN ?_ _ | refine blk_drew ?_ | refine blk_alloc ?_ _)); refine blk_put (cs := #[.int .i64 0, .int .i64 0]) ?_ 0 _ rfl; (with_reducible repeat (first | refine blk_drewN ?_ _ | refine blk_drew ?_ | refine blk_alloc ?_ _)); exact BK508.out⟩, ⟨by repeat (first | (with_reducible first | exact HB.out | apply below_alloc | apply pw_below_drewN | apply below_drew1 | refine below_set ?_ GE496.out | refine below_set ?_ GE497.out | refine below_set ?_ GE498.out | refine below_set ?_ GE508.out) | exact HB.out)⟩⟩
  ·rw [if_neg c24] at H
   have c24b0 : decide (a0 < 1) = false := decide_eq_false c24
   clear c24
   (first | rw [c24b0] | (simp only [i64_w, i32_w]; rw [c24b0]) | skip)
   by_cases c25 : a0 > 6
   ·rw [if_pos c25] at H
    have c25b0 : decide (6 < a0) = true := decide_eq_true c25
    clear c25
    have H' := Aside0.mk H
    clear H
    go_wp2
    go_meet
    case rel => exact ⟨_, (true), (by first | rfl | (simp; done) | (simp [*]; done)), H', ⟨by first | omega | exact Nat.le_refl _⟩, ⟨by (with_reducible repeat (first | refine blk_drewN ?_ _ | refine blk_drew ?_ | refine blk_alloc ?_ _)); refine blk_far ?_ NB496_508.out _; (with_reducible repeat (first | refine blk_drewN ?_ _ | refine blk_drew ?_ | refine blk_alloc ?_ _)); refine blk_far ?_ NB496_508.out _; (with_reducible repeat (first | refine blk_drewN ?_ _ | refine blk_drew ?_ | refine blk_alloc ?_ _)); exact BK496.out⟩, ⟨by (with_reducible repeat (first | refine blk_drewN ?_ _ | refine blk_drew ?_ | refine blk_alloc ?_ _)); refine blk_far ?_ NB497_508.out _; (with_reducible repeat (first | refine blk_drewN ?_ _ | refine blk_drew ?_ | refine blk_alloc ?_ _)); refine blk_far ?_ NB497_508.out _; (with_reducible repeat (first | refine blk_drewN ?_ _ | refine blk_drew ?_ | refine blk_alloc ?_ _)); exact BK497.out⟩, ⟨by (with_reducible repeat (first | refine blk_drewN ?_ _ | refine blk_drew ?_ | refine blk_alloc ?_ _)); refine blk_far ?_ NB498_508.out _; (with_reducible repeat (first | refine blk_drewN ?_ _ | refine blk_drew ?_ | refine blk_alloc ?_ _)); refine blk_far ?_ NB498_508.out _; (with_reducible repeat (first | refine blk_drewN ?_ _ | refine blk_drew ?_ | refine blk_alloc ?_ _)); exact BK498.out⟩, ⟨by (with_reducible repeat (first | refine blk_drewN ?_ _ | refine blk_drew ?_ | refine blk_alloc ?_ _)); refine blk_put (cs := #[.int .i64 t505, .int .i64 0]) ?_ 1 _ rfl; (with_reducible repeat (first | refine blk_drewN ?_ _ | refine blk_drew ?_ | refine blk_alloc ?_ _)); refine blk_put (cs := #[.int .i64 0, .int .i64 0]) ?_ 0 _ rfl; (with_reducible repeat (first | refine blk_drewN ?_ _ | refine blk_drew ?_ | refine blk_alloc ?_ _)); exact BK508.out⟩, ⟨by repeat (first | (with_reducible first | exact HB.out | apply below_alloc | apply pw_below_drewN | apply below_drew1 | refine below_set ?_ GE496.out | refine below_set ?_ GE497.out | refine below_set ?_ GE498.out | refine below_set ?_ GE508.out) | exact HB.out)⟩⟩
   ·rw [if_neg c25] at H
    have c25b0 : decide (6 < a0) = false := decide_eq_false c25
    clear c25
    replace H := Option.bind_eq_some_iff.mp H
    obtain ⟨t509, A260, H⟩ := H
    replace H : (if t509 = true then ((comfitref02_Is.f a2_0 a2_1).bind fun t510 => (if t510 = true then ((comfitref02_Is.f a3_0 a3_1).bind fun t511 => (if t511 = true then ((comfitref02_Cost.f a4 a5).bind fun t512 => (if t512 = true then (comfitlaw02_LotsWise.j0 k a0 a4 a5 t507 (decide ((wrap64 (a1_0 * a2_1)) > (wrap64 (a2_0 * a1_1)))) a1_0 a1_1 a2_0 a2_1 a3_0 a3_1 t505 t506) else (comfitlaw02_LotsWise.j0 k a0 a4 a5 t507 true a1_0 a1_1 a2_0 a2_1 a3_0 a3_1 t505 t506))) else (comfitlaw02_LotsWise.j0 k a0 a4 a5 t507 true a1_0 a1_1 a2_0 a2_1 a3_0 a3_1 t505 t506))) else (comfitlaw02_LotsWise.j0 k a0 a4 a5 t507 true a1_0 a1_1 a2_0 a2_1 a3_0 a3_1 t505 t506))) else (comfitlaw02_LotsWise.j0 k a0 a4 a5 t507 true a1_0 a1_1 a2_0 a2_1 a3_0 a3_1 t505 t506)) = some r := H
    have A26 := Aside0.mk A260
    clear A260
    by_cases c27 : t509 = true
    ·subst c27
     have H1 : ((comfitref02_Is.f a2_0 a2_1).bind fun t510 => (if t510 = true then ((comfitref02_Is.f a3_0 a3_1).bind fun t511 => (if t511 = true then ((comfitref02_Cost.f a4 a5).bind fun t512 => (if t512 = true then (comfitlaw02_LotsWise.j0 k a0 a4 a5 t507 (decide ((wrap64 (a1_0 * a2_1)) > (wrap64 (a2_0 * a1_1)))) a1_0 a1_1 a2_0 a2_1 a3_0 a3_1 t505 t506) else (comfitlaw02_LotsWise.j0 k a0 a4 a5 t507 true a1_0 a1_1 a2_0 a2_1 a3_0 a3_1 t505 t506))) else (comfitlaw02_LotsWise.j0 k a0 a4 a5 t507 true a1_0 a1_1 a2_0 a2_1 a3_0 a3_1 t505 t506))) else (comfitlaw02_LotsWise.j0 k a0 a4 a5 t507 true a1_0 a1_1 a2_0 a2_1 a3_0 a3_1 t505 t506))) = some r := by rw [if_pos rfl] at H; exact H
     clear H
     have H := H1
     clear H1
     replace H := Option.bind_eq_some_iff.mp H
     obtain ⟨t510, A280, H⟩ := H
     replace H : (if t510 = true then ((comfitref02_Is.f a3_0 a3_1).bind fun t511 => (if t511 = true then ((comfitref02_Cost.f a4 a5).bind fun t512 => (if t512 = true then (comfitlaw02_LotsWise.j0 k a0 a4 a5 t507 (decide ((wrap64 (a1_0 * a2_1)) > (wrap64 (a2_0 * a1_1)))) a1_0 a1_1 a2_0 a2_1 a3_0 a3_1 t505 t506) else (comfitlaw02_LotsWise.j0 k a0 a4 a5 t507 true a1_0 a1_1 a2_0 a2_1 a3_0 a3_1 t505 t506))) else (comfitlaw02_LotsWise.j0 k a0 a4 a5 t507 true a1_0 a1_1 a2_0 a2_1 a3_0 a3_1 t505 t506))) else (comfitlaw02_LotsWise.j0 k a0 a4 a5 t507 true a1_0 a1_1 a2_0 a2_1 a3_0 a3_1 t505 t506)) = some r := H
     have A28 := Aside0.mk A280
     clear A280
     by_cases c29 : t510 = true
     ·subst c29
      have H1 : ((comfitref02_Is.f a3_0 a3_1).bind fun t511 => (if t511 = true then ((comfitref02_Cost.f a4 a5).bind fun t512 => (if t512 = true then (comfitlaw02_LotsWise.j0 k a0 a4 a5 t507 (decide ((wrap64 (a1_0 * a2_1)) > (wrap64 (a2_0 * a1_1)))) a1_0 a1_1 a2_0 a2_1 a3_0 a3_1 t505 t506) else (comfitlaw02_LotsWise.j0 k a0 a4 a5 t507 true a1_0 a1_1 a2_0 a2_1 a3_0 a3_1 t505 t506))) else (comfitlaw02_LotsWise.j0 k a0 a4 a5 t507 true a1_0 a1_1 a2_0 a2_1 a3_0 a3_1 t505 t506))) = some r := by rw [if_pos rfl] at H; exact H
      clear H
      have H := H1
      clear H1
      replace H := Option.bind_eq_some_iff.mp H
      obtain ⟨t511, A300, H⟩ := H
      replace H : (if t511 = true then ((comfitref02_Cost.f a4 a5).bind fun t512 => (if t512 = true then (comfitlaw02_LotsWise.j0 k a0 a4 a5 t507 (decide ((wrap64 (a1_0 * a2_1)) > (wrap64 (a2_0 * a1_1)))) a1_0 a1_1 a2_0 a2_1 a3_0 a3_1 t505 t506) else (comfitlaw02_LotsWise.j0 k a0 a4 a5 t507 true a1_0 a1_1 a2_0 a2_1 a3_0 a3_1 t505 t506))) else (comfitlaw02_LotsWise.j0 k a0 a4 a5 t507 true a1_0 a1_1 a2_0 a2_1 a3_0 a3_1 t505 t506)) = some r := H
      have A30 := Aside0.mk A300
      clear A300
      by_cases c31 : t511 = true
      ·subst c31
       have H1 : ((comfitref02_Cost.f a4 a5).bind fun t512 => (if t512 = true then (comfitlaw02_LotsWise.j0 k a0 a4 a5 t507 (decide ((wrap64 (a1_0 * a2_1)) > (wrap64 (a2_0 * a1_1)))) a1_0 a1_1 a2_0 a2_1 a3_0 a3_1 t505 t506) else (comfitlaw02_LotsWise.j0 k a0 a4 a5 t507 true a1_0 a1_1 a2_0 a2_1 a3_0 a3_1 t505 t506))) = some r := by rw [if_pos rfl] at H; exact H
       clear H
       have H := H1
       clear H1
       replace H := Option.bind_eq_some_iff.mp H
       obtain ⟨t512, A320, H⟩ := H
       replace H : (if t512 = true then (comfitlaw02_LotsWise.j0 k a0 a4 a5 t507 (decide ((wrap64 (a1_0 * a2_1)) > (wrap64 (a2_0 * a1_1)))) a1_0 a1_1 a2_0 a2_1 a3_0 a3_1 t505 t506) else (comfitlaw02_LotsWise.j0 k a0 a4 a5 t507 true a1_0 a1_1 a2_0 a2_1 a3_0 a3_1 t505 t506)) = some r := H
       have A32 := Aside0.mk A320
       clear A320
       by_cases c33 : t512 = true
       ·subst c33
        have H1 : (comfitlaw02_LotsWise.j0 k a0 a4 a5 t507 (decide ((wrap64 (a1_0 * a2_1)) > (wrap64 (a2_0 * a1_1)))) a1_0 a1_1 a2_0 a2_1 a3_0 a3_1 t505 t506) = some r := by rw [if_pos rfl] at H; exact H
        clear H
        have H := H1
        clear H1
        have H' := Aside0.mk H
        clear H
        have hnb34 := NB496_497.out
        have hnc34 := NB497_496.out
        have hnb35 := NB496_498.out
        have hnc35 := NB498_496.out
        have hnb36 := NB496_508.out
        have hnc36 := NB508_496.out
        have hcz37_0 : w21.cell? ⟨gb496, 0, none⟩ = some (.int .i64 a1_0) := (blk_cell BK496.out 0).trans rfl
        have hcz37_1 : w21.cell? ⟨gb496, 1, none⟩ = some (.int .i64 a1_1) := (blk_cell BK496.out 1).trans rfl
        have hfz37_0 := blk_frozen BK496.out 0
        have hfz37_1 := blk_frozen BK496.out 1
        go_wp2_with (first | (go_at_call 24; (with_reducible refine (comfitref02_Is.calls a1_0 a1_1 true _ A26.out).mono ?_); rintro e w38 ⟨rfl, hb⟩; have n0_ := Aside0.mk (blk_below (g := gb496) (o := .cells #[.int .i64 a1_0, .int .i64 a1_1] 26 (0, 0)) (by (with_reducible repeat (first | refine blk_drewN ?_ _ | refine blk_drew ?_ | refine blk_alloc ?_ _)); refine blk_far ?_ NB496_508.out _; (with_reducible repeat (first | refine blk_drewN ?_ _ | refine blk_drew ?_ | refine blk_alloc ?_ _)); refine blk_far ?_ NB496_508.out _; (with_reducible repeat (first | refine blk_drewN ?_ _ | refine blk_drew ?_ | refine blk_alloc ?_ _)); exact BK496.out) hb); have n1_ := Aside0.mk (blk_below (g := gb497) (o := .cells #[.int .i64 a2_0, .int .i64 a2_1] 26 (0, 0)) (by (with_reducible repeat (first | refine blk_drewN ?_ _ | refine blk_drew ?_ | refine blk_alloc ?_ _)); refine blk_far ?_ NB497_508.out _; (with_reducible repeat (first | refine blk_drewN ?_ _ | refine blk_drew ?_ | refine blk_alloc ?_ _)); refine blk_far ?_ NB497_508.out _; (with_reducible repeat (first | refine blk_drewN ?_ _ | refine blk_drew ?_ | refine blk_alloc ?_ _)); exact BK497.out) hb); have n2_ := Aside0.mk (blk_below (g := gb498) (o := .cells #[.int .i64 a3_0, .int .i64 a3_1] 26 (0, 0)) (by (with_reducible repeat (first | refine blk_drewN ?_ _ | refine blk_drew ?_ | refine blk_alloc ?_ _)); refine blk_far ?_ NB498_508.out _; (with_reducible repeat (first | refine blk_drewN ?_ _ | refine blk_drew ?_ | refine blk_alloc ?_ _)); refine blk_far ?_ NB498_508.out _; (with_reducible repeat (first | refine blk_drewN ?_ _ | refine blk_drew ?_ | refine blk_alloc ?_ _)); exact BK498.out) hb); have n3_ := Aside0.mk (blk_below (g := gb508) (o := .cells #[.int .i64 t505, .int .i64 t506] 28 (0, 0)) (by (with_reducible repeat (first | refine blk_drewN ?_ _ | refine blk_drew ?_ | refine blk_alloc ?_ _)); refine blk_put (cs := #[.int .i64 t505, .int .i64 0]) ?_ 1 _ rfl; (with_reducible repeat (first | refine blk_drewN ?_ _ | refine blk_drew ?_ | refine blk_alloc ?_ _)); refine blk_put (cs := #[.int .i64 0, .int .i64 0]) ?_ 0 _ rfl; (with_reducible repeat (first | refine blk_drewN ?_ _ | refine blk_drew ?_ | refine blk_alloc ?_ _)); exact BK508.out) hb); have n4_ := Aside0.mk (below_step (hb_ HB.out) hb); clear BK496; clear BK497; clear BK498; clear BK508; clear HB; have BK496 := n0_; have BK497 := n1_; have BK498 := n2_; have BK508 := n3_; have HB := n4_; clear n0_ n1_ n2_ n3_ n4_; (try clear hb); (try clear hb2); (try clear hk); (try clear hi); have hnb39 := NB497_498.out; have hnc39 := NB498_497.out; have hnb40 := NB497_508.out; have hnc40 := NB508_497.out; have hcz41_0 : w38.cell? ⟨gb497, 0, none⟩ = some (.int .i64 a2_0) := (blk_cell BK497.out 0).trans rfl; have hcz41_1 : w38.cell? ⟨gb497, 1, none⟩ = some (.int .i64 a2_1) := (blk_cell BK497.out 1).trans rfl; have hfz41_0 := blk_frozen BK497.out 0; have hfz41_1 := blk_frozen BK497.out 1) | (go_at_call 24; (with_reducible refine (comfitref02_Is.calls a2_0 a2_1 true _ A28.out).mono ?_); rintro e w42 ⟨rfl, hb⟩; have n0_ := Aside0.mk (bkb_ BK496.out hb); have n1_ := Aside0.mk (bkb_ BK497.out hb); have n2_ := Aside0.mk (bkb_ BK498.out hb); have n3_ := Aside0.mk (bkb_ BK508.out hb); have n4_ := Aside0.mk (below_step (hb_ HB.out) hb); clear BK496; clear BK497; clear BK498; clear BK508; clear HB; have BK496 := n0_; have BK497 := n1_; have BK498 := n2_; have BK508 := n3_; have HB := n4_; clear n0_ n1_ n2_ n3_ n4_; (try clear hb); (try clear hb2); (try clear hk); (try clear hi); have hnb43 := NB498_508.out; have hnc43 := NB508_498.out; have hcz44_0 : w42.cell? ⟨gb498, 0, none⟩ = some (.int .i64 a3_0) := (blk_cell BK498.out 0).trans rfl; have hcz44_1 : w42.cell? ⟨gb498, 1, none⟩ = some (.int .i64 a3_1) := (blk_cell BK498.out 1).trans rfl; have hfz44_0 := blk_frozen BK498.out 0; have hfz44_1 := blk_frozen BK498.out 1) | (go_at_call 24; (with_reducible refine (comfitref02_Is.calls a3_0 a3_1 true _ A30.out).mono ?_); rintro e w45 ⟨rfl, hb⟩; have n0_ := Aside0.mk (bkb_ BK496.out hb); have n1_ := Aside0.mk (bkb_ BK497.out hb); have n2_ := Aside0.mk (bkb_ BK498.out hb); have n3_ := Aside0.mk (bkb_ BK508.out hb); have n4_ := Aside0.mk (below_step (hb_ HB.out) hb); clear BK496; clear BK497; clear BK498; clear BK508; clear HB; have BK496 := n0_; have BK497 := n1_; have BK498 := n2_; have BK508 := n3_; have HB := n4_; clear n0_ n1_ n2_ n3_ n4_; (try clear hb); (try clear hb2); (try clear hk); (try clear hi)) | (go_at_call 41; (with_reducible refine (comfitref02_Cost.calls a4 a5 true _ A32.out).mono ?_); rintro e w' ⟨rfl, ⟨nd, rfl⟩⟩; have hcz46_0 : w45.cell? ⟨gb496, 0, none⟩ = some (.int .i64 a1_0) := (blk_cell BK496.out 0).trans rfl; have hcz46_1 : w45.cell? ⟨gb496, 1, none⟩ = some (.int .i64 a1_1) := (blk_cell BK496.out 1).trans rfl; have hfz46_0 := blk_frozen BK496.out 0; have hfz46_1 := blk_frozen BK496.out 1; have hcz47_0 : w45.cell? ⟨gb497, 0, none⟩ = some (.int .i64 a2_0) := (blk_cell BK497.out 0).trans rfl; have hcz47_1 : w45.cell? ⟨gb497, 1, none⟩ = some (.int .i64 a2_1) := (blk_cell BK497.out 1).trans rfl; have hfz47_0 := blk_frozen BK497.out 0; have hfz47_1 := blk_frozen BK497.out 1))
        go_meet
        case rel => exact ⟨_, (decide ((wrap64 (a1_0 * a2_1)) > (wrap64 (a2_0 * a1_1)))), (by first | rfl | (simp; done) | (simp [*]; done)), H', ⟨by first | omega | exact Nat.le_refl _⟩, ⟨by (with_reducible repeat (first | refine blk_drewN ?_ _ | refine blk_drew ?_ | refine blk_alloc ?_ _)); exact BK496.out⟩, ⟨by (with_reducible repeat (first | refine blk_drewN ?_ _ | refine blk_drew ?_ | refine blk_alloc ?_ _)); exact BK497.out⟩, ⟨by (with_reducible repeat (first | refine blk_drewN ?_ _ | refine blk_drew ?_ | refine blk_alloc ?_ _)); exact BK498.out⟩, ⟨by (with_reducible repeat (first | refine blk_drewN ?_ _ | refine blk_drew ?_ | refine blk_alloc ?_ _)); exact BK508.out⟩, ⟨by repeat (first | (with_reducible first | exact HB.out | apply below_alloc | apply pw_below_drewN | apply below_drew1 | refine below_set ?_ GE496.out | refine below_set ?_ GE497.out | refine below_set ?_ GE498.out | refine below_set ?_ GE508.out) | exact HB.out)⟩⟩
       ·replace c33 := Bool.eq_false_iff.mpr c33
        subst c33
        have H1 : (comfitlaw02_LotsWise.j0 k a0 a4 a5 t507 true a1_0 a1_1 a2_0 a2_1 a3_0 a3_1 t505 t506) = some r := by rw [if_neg (show ¬ (false = true) by decide)] at H; exact H
        clear H
        have H := H1
        clear H1
        have H' := Aside0.mk H
        clear H
        have hnb48 := NB496_497.out
        have hnc48 := NB497_496.out
        have hnb49 := NB496_498.out
        have hnc49 := NB498_496.out
        have hnb50 := NB496_508.out
        have hnc50 := NB508_496.out
        have hcz51_0 : w21.cell? ⟨gb496, 0, none⟩ = some (.int .i64 a1_0) := (blk_cell BK496.out 0).trans rfl
        have hcz51_1 : w21.cell? ⟨gb496, 1, none⟩ = some (.int .i64 a1_1) := (blk_cell BK496.out 1).trans rfl
        have hfz51_0 := blk_frozen BK496.out 0
        have hfz51_1 := blk_frozen BK496.out 1
        go_wp2_with (first | (go_at_call 24; (with_reducible refine (comfitref02_Is.calls a1_0 a1_1 true _ A26.out).mono ?_); rintro e w52 ⟨rfl, hb⟩; have n0_ := Aside0.mk (blk_below (g := gb496) (o := .cells #[.int .i64 a1_0, .int .i64 a1_1] 26 (0, 0)) (by (with_reducible repeat (first | refine blk_drewN ?_ _ | refine blk_drew ?_ | refine blk_alloc ?_ _)); refine blk_far ?_ NB496_508.out _; (with_reducible repeat (first | refine blk_drewN ?_ _ | refine blk_drew ?_ | refine blk_alloc ?_ _)); refine blk_far ?_ NB496_508.out _; (with_reducible repeat (first | refine blk_drewN ?_ _ | refine blk_drew ?_ | refine blk_alloc ?_ _)); exact BK496.out) hb); have n1_ := Aside0.mk (blk_below (g := gb497) (o := .cells #[.int .i64 a2_0, .int .i64 a2_1] 26 (0, 0)) (by (with_reducible repeat (first | refine blk_drewN ?_ _ | refine blk_drew ?_ | refine blk_alloc ?_ _)); refine blk_far ?_ NB497_508.out _; (with_reducible repeat (first | refine blk_drewN ?_ _ | refine blk_drew ?_ | refine blk_alloc ?_ _)); refine blk_far ?_ NB497_508.out _; (with_reducible repeat (first | refine blk_drewN ?_ _ | refine blk_drew ?_ | refine blk_alloc ?_ _)); exact BK497.out) hb); have n2_ := Aside0.mk (blk_below (g := gb498) (o := .cells #[.int .i64 a3_0, .int .i64 a3_1] 26 (0, 0)) (by (with_reducible repeat (first | refine blk_drewN ?_ _ | refine blk_drew ?_ | refine blk_alloc ?_ _)); refine blk_far ?_ NB498_508.out _; (with_reducible repeat (first | refine blk_drewN ?_ _ | refine blk_drew ?_ | refine blk_alloc ?_ _)); refine blk_far ?_ NB498_508.out _; (with_reducible repeat (first | refine blk_drewN ?_ _ | refine blk_drew ?_ | refine blk_alloc ?_ _)); exact BK498.out) hb); have n3_ := Aside0.mk (blk_below (g := gb508) (o := .cells #[.int .i64 t505, .int .i64 t506] 28 (0, 0)) (by (with_reducible repeat (first | refine blk_drewN ?_ _ | refine blk_drew ?_ | refine blk_alloc ?_ _)); refine blk_put (cs := #[.int .i64 t505, .int .i64 0]) ?_ 1 _ rfl; (with_reducible repeat (first | refine blk_drewN ?_ _ | refine blk_drew ?_ | refine blk_alloc ?_ _)); refine blk_put (cs := #[.int .i64 0, .int .i64 0]) ?_ 0 _ rfl; (with_reducible repeat (first | refine blk_drewN ?_ _ | refine blk_drew ?_ | refine blk_alloc ?_ _)); exact BK508.out) hb); have n4_ := Aside0.mk (below_step (hb_ HB.out) hb); clear BK496; clear BK497; clear BK498; clear BK508; clear HB; have BK496 := n0_; have BK497 := n1_; have BK498 := n2_; have BK508 := n3_; have HB := n4_; clear n0_ n1_ n2_ n3_ n4_; (try clear hb); (try clear hb2); (try clear hk); (try clear hi); have hnb53 := NB497_498.out; have hnc53 := NB498_497.out; have hnb54 := NB497_508.out; have hnc54 := NB508_497.out; have hcz55_0 : w52.cell? ⟨gb497, 0, none⟩ = some (.int .i64 a2_0) := (blk_cell BK497.out 0).trans rfl; have hcz55_1 : w52.cell? ⟨gb497, 1, none⟩ = some (.int .i64 a2_1) := (blk_cell BK497.out 1).trans rfl; have hfz55_0 := blk_frozen BK497.out 0; have hfz55_1 := blk_frozen BK497.out 1) | (go_at_call 24; (with_reducible refine (comfitref02_Is.calls a2_0 a2_1 true _ A28.out).mono ?_); rintro e w56 ⟨rfl, hb⟩; have n0_ := Aside0.mk (bkb_ BK496.out hb); have n1_ := Aside0.mk (bkb_ BK497.out hb); have n2_ := Aside0.mk (bkb_ BK498.out hb); have n3_ := Aside0.mk (bkb_ BK508.out hb); have n4_ := Aside0.mk (below_step (hb_ HB.out) hb); clear BK496; clear BK497; clear BK498; clear BK508; clear HB; have BK496 := n0_; have BK497 := n1_; have BK498 := n2_; have BK508 := n3_; have HB := n4_; clear n0_ n1_ n2_ n3_ n4_; (try clear hb); (try clear hb2); (try clear hk); (try clear hi); have hnb57 := NB498_508.out; have hnc57 := NB508_498.out; have hcz58_0 : w56.cell? ⟨gb498, 0, none⟩ = some (.int .i64 a3_0) := (blk_cell BK498.out 0).trans rfl; have hcz58_1 : w56.cell? ⟨gb498, 1, none⟩ = some (.int .i64 a3_1) := (blk_cell BK498.out 1).trans rfl; have hfz58_0 := blk_frozen BK498.out 0; have hfz58_1 := blk_frozen BK498.out 1) | (go_at_call 24; (with_reducible refine (comfitref02_Is.calls a3_0 a3_1 true _ A30.out).mono ?_); rintro e w59 ⟨rfl, hb⟩; have n0_ := Aside0.mk (bkb_ BK496.out hb); have n1_ := Aside0.mk (bkb_ BK497.out hb); have n2_ := Aside0.mk (bkb_ BK498.out hb); have n3_ := Aside0.mk (bkb_ BK508.out hb); have n4_ := Aside0.mk (below_step (hb_ HB.out) hb); clear BK496; clear BK497; clear BK498; clear BK508; clear HB; have BK496 := n0_; have BK497 := n1_; have BK498 := n2_; have BK508 := n3_; have HB := n4_; clear n0_ n1_ n2_ n3_ n4_; (try clear hb); (try clear hb2); (try clear hk); (try clear hi)) | (go_at_call 41; (with_reducible refine (comfitref02_Cost.calls a4 a5 false _ A32.out).mono ?_); rintro e w' ⟨rfl, ⟨nd, rfl⟩⟩))
        go_meet
        case rel => exact ⟨_, (true), (by first | rfl | (simp; done) | (simp [*]; done)), H', ⟨by first | omega | exact Nat.le_refl _⟩, ⟨by (with_reducible repeat (first | refine blk_drewN ?_ _ | refine blk_drew ?_ | refine blk_alloc ?_ _)); exact BK496.out⟩, ⟨by (with_reducible repeat (first | refine blk_drewN ?_ _ | refine blk_drew ?_ | refine blk_alloc ?_ _)); exact BK497.out⟩, ⟨by (with_reducible repeat (first | refine blk_drewN ?_ _ | refine blk_drew ?_ | refine blk_alloc ?_ _)); exact BK498.out⟩, ⟨by (with_reducible repeat (first | refine blk_drewN ?_ _ | refine blk_drew ?_ | refine blk_alloc ?_ _)); exact BK508.out⟩, ⟨by repeat (first | (with_reducible first | exact HB.out | apply below_alloc | apply pw_below_drewN | apply below_drew1 | refine below_set ?_ GE496.out | refine below_set ?_ GE497.out | refine below_set ?_ GE498.out | refine below_set ?_ GE508.out) | exact HB.out)⟩⟩
      ·replace c31 := Bool.eq_false_iff.mpr c31
       subst c31
       have H1 : (comfitlaw02_LotsWise.j0 k a0 a4 a5 t507 true a1_0 a1_1 a2_0 a2_1 a3_0 a3_1 t505 t506) = some r := by rw [if_neg (show ¬ (false = true) by decide)] at H; exact H
       clear H
       have H := H1
       clear H1
       have H' := Aside0.mk H
       clear H
       have hnb60 := NB496_497.out
       have hnc60 := NB497_496.out
       have hnb61 := NB496_498.out
       have hnc61 := NB498_496.out
       have hnb62 := NB496_508.out
       have hnc62 := NB508_496.out
       have hcz63_0 : w21.cell? ⟨gb496, 0, none⟩ = some (.int .i64 a1_0) := (blk_cell BK496.out 0).trans rfl
       have hcz63_1 : w21.cell? ⟨gb496, 1, none⟩ = some (.int .i64 a1_1) := (blk_cell BK496.out 1).trans rfl
       have hfz63_0 := blk_frozen BK496.out 0
       have hfz63_1 := blk_frozen BK496.out 1
       go_wp2_with (first | (go_at_call 24; (with_reducible refine (comfitref02_Is.calls a1_0 a1_1 true _ A26.out).mono ?_); rintro e w64 ⟨rfl, hb⟩; have n0_ := Aside0.mk (blk_below (g := gb496) (o := .cells #[.int .i64 a1_0, .int .i64 a1_1] 26 (0, 0)) (by (with_reducible repeat (first | refine blk_drewN ?_ _ | refine blk_drew ?_ | refine blk_alloc ?_ _)); refine blk_far ?_ NB496_508.out _; (with_reducible repeat (first | refine blk_drewN ?_ _ | refine blk_drew ?_ | refine blk_alloc ?_ _)); refine blk_far ?_ NB496_508.out _; (with_reducible repeat (first | refine blk_drewN ?_ _ | refine blk_drew ?_ | refine blk_alloc ?_ _)); exact BK496.out) hb); have n1_ := Aside0.mk (blk_below (g := gb497) (o := .cells #[.int .i64 a2_0, .int .i64 a2_1] 26 (0, 0)) (by (with_reducible repeat (first | refine blk_drewN ?_ _ | refine blk_drew ?_ | refine blk_alloc ?_ _)); refine blk_far ?_ NB497_508.out _; (with_reducible repeat (first | refine blk_drewN ?_ _ | refine blk_drew ?_ | refine blk_alloc ?_ _)); refine blk_far ?_ NB497_508.out _; (with_reducible repeat (first | refine blk_drewN ?_ _ | refine blk_drew ?_ | refine blk_alloc ?_ _)); exact BK497.out) hb); have n2_ := Aside0.mk (blk_below (g := gb498) (o := .cells #[.int .i64 a3_0, .int .i64 a3_1] 26 (0, 0)) (by (with_reducible repeat (first | refine blk_drewN ?_ _ | refine blk_drew ?_ | refine blk_alloc ?_ _)); refine blk_far ?_ NB498_508.out _; (with_reducible repeat (first | refine blk_drewN ?_ _ | refine blk_drew ?_ | refine blk_alloc ?_ _)); refine blk_far ?_ NB498_508.out _; (with_reducible repeat (first | refine blk_drewN ?_ _ | refine blk_drew ?_ | refine blk_alloc ?_ _)); exact BK498.out) hb); have n3_ := Aside0.mk (blk_below (g := gb508) (o := .cells #[.int .i64 t505, .int .i64 t506] 28 (0, 0)) (by (with_reducible repeat (first | refine blk_drewN ?_ _ | refine blk_drew ?_ | refine blk_alloc ?_ _)); refine blk_put (cs := #[.int .i64 t505, .int .i64 0]) ?_ 1 _ rfl; (with_reducible repeat (first | refine blk_drewN ?_ _ | refine blk_drew ?_ | refine blk_alloc ?_ _)); refine blk_put (cs := #[.int .i64 0, .int .i64 0]) ?_ 0 _ rfl; (with_reducible repeat (first | refine blk_drewN ?_ _ | refine blk_drew ?_ | refine blk_alloc ?_ _)); exact BK508.out) hb); have n4_ := Aside0.mk (below_step (hb_ HB.out) hb); clear BK496; clear BK497; clear BK498; clear BK508; clear HB; have BK496 := n0_; have BK497 := n1_; have BK498 := n2_; have BK508 := n3_; have HB := n4_; clear n0_ n1_ n2_ n3_ n4_; (try clear hb); (try clear hb2); (try clear hk); (try clear hi); have hnb65 := NB497_498.out; have hnc65 := NB498_497.out; have hnb66 := NB497_508.out; have hnc66 := NB508_497.out; have hcz67_0 : w64.cell? ⟨gb497, 0, none⟩ = some (.int .i64 a2_0) := (blk_cell BK497.out 0).trans rfl; have hcz67_1 : w64.cell? ⟨gb497, 1, none⟩ = some (.int .i64 a2_1) := (blk_cell BK497.out 1).trans rfl; have hfz67_0 := blk_frozen BK497.out 0; have hfz67_1 := blk_frozen BK497.out 1) | (go_at_call 24; (with_reducible refine (comfitref02_Is.calls a2_0 a2_1 true _ A28.out).mono ?_); rintro e w68 ⟨rfl, hb⟩; have n0_ := Aside0.mk (bkb_ BK496.out hb); have n1_ := Aside0.mk (bkb_ BK497.out hb); have n2_ := Aside0.mk (bkb_ BK498.out hb); have n3_ := Aside0.mk (bkb_ BK508.out hb); have n4_ := Aside0.mk (below_step (hb_ HB.out) hb); clear BK496; clear BK497; clear BK498; clear BK508; clear HB; have BK496 := n0_; have BK497 := n1_; have BK498 := n2_; have BK508 := n3_; have HB := n4_; clear n0_ n1_ n2_ n3_ n4_; (try clear hb); (try clear hb2); (try clear hk); (try clear hi); have hnb69 := NB498_508.out; have hnc69 := NB508_498.out; have hcz70_0 : w68.cell? ⟨gb498, 0, none⟩ = some (.int .i64 a3_0) := (blk_cell BK498.out 0).trans rfl; have hcz70_1 : w68.cell? ⟨gb498, 1, none⟩ = some (.int .i64 a3_1) := (blk_cell BK498.out 1).trans rfl; have hfz70_0 := blk_frozen BK498.out 0; have hfz70_1 := blk_frozen BK498.out 1) | (go_at_call 24; (with_reducible refine (comfitref02_Is.calls a3_0 a3_1 false _ A30.out).mono ?_); rintro e w71 ⟨rfl, hb⟩; have n0_ := Aside0.mk (bkb_ BK496.out hb); have n1_ := Aside0.mk (bkb_ BK497.out hb); have n2_ := Aside0.mk (bkb_ BK498.out hb); have n3_ := Aside0.mk (bkb_ BK508.out hb); have n4_ := Aside0.mk (below_step (hb_ HB.out) hb); clear BK496; clear BK497; clear BK498; clear BK508; clear HB; have BK496 := n0_; have BK497 := n1_; have BK498 := n2_; have BK508 := n3_; have HB := n4_; clear n0_ n1_ n2_ n3_ n4_; (try clear hb); (try clear hb2); (try clear hk); (try clear hi)))
       go_meet
       case rel => exact ⟨_, (true), (by first | rfl | (simp; done) | (simp [*]; done)), H', ⟨by first | omega | exact Nat.le_refl _⟩, ⟨by (with_reducible repeat (first | refine blk_drewN ?_ _ | refine blk_drew ?_ | refine blk_alloc ?_ _)); exact BK496.out⟩, ⟨by (with_reducible repeat (first | refine blk_drewN ?_ _ | refine blk_drew ?_ | refine blk_alloc ?_ _)); exact BK497.out⟩, ⟨by (with_reducible repeat (first | refine blk_drewN ?_ _ | refine blk_drew ?_ | refine blk_alloc ?_ _)); exact BK498.out⟩, ⟨by (with_reducible repeat (first | refine blk_drewN ?_ _ | refine blk_drew ?_ | refine blk_alloc ?_ _)); exact BK508.out⟩, ⟨by repeat (first | (with_reducible first | exact HB.out | apply below_alloc | apply pw_below_drewN | apply below_drew1 | refine below_set ?_ GE496.out | refine below_set ?_ GE497.out | refine below_set ?_ GE498.out | refine below_set ?_ GE508.out) | exact HB.out)⟩⟩
     ·replace c29 := Bool.eq_false_iff.mpr c29
      subst c29
      have H1 : (comfitlaw02_LotsWise.j0 k a0 a4 a5 t507 true a1_0 a1_1 a2_0 a2_1 a3_0 a3_1 t505 t506) = some r := by rw [if_neg (show ¬ (false = true) by decide)] at H; exact H
      clear H
      have H := H1
      clear H1
      have H' := Aside0.mk H
      clear H
      have hnb72 := NB496_497.out
      have hnc72 := NB497_496.out
      have hnb73 := NB496_498.out
      have hnc73 := NB498_496.out
      have hnb74 := NB496_508.out
      have hnc74 := NB508_496.out
      have hcz75_0 : w21.cell? ⟨gb496, 0, none⟩ = some (.int .i64 a1_0) := (blk_cell BK496.out 0).trans rfl
      have hcz75_1 : w21.cell? ⟨gb496, 1, none⟩ = some (.int .i64 a1_1) := (blk_cell BK496.out 1).trans rfl
      have hfz75_0 := blk_frozen BK496.out 0
      have hfz75_1 := blk_frozen BK496.out 1
      go_wp2_with (first | (go_at_call 24; (with_reducible refine (comfitref02_Is.calls a1_0 a1_1 true _ A26.out).mono ?_); rintro e w76 ⟨rfl, hb⟩; have n0_ := Aside0.mk (blk_below (g := gb496) (o := .cells #[.int .i64 a1_0, .int .i64 a1_1] 26 (0, 0)) (by (with_reducible repeat (first | refine blk_drewN ?_ _ | refine blk_drew ?_ | refine blk_alloc ?_ _)); refine blk_far ?_ NB496_508.out _; (with_reducible repeat (first | refine blk_drewN ?_ _ | refine blk_drew ?_ | refine blk_alloc ?_ _)); refine blk_far ?_ NB496_508.out _; (with_reducible repeat (first | refine blk_drewN ?_ _ | refine blk_drew ?_ | refine blk_alloc ?_ _)); exact BK496.out) hb); have n1_ := Aside0.mk (blk_below (g := gb497) (o := .cells #[.int .i64 a2_0, .int .i64 a2_1] 26 (0, 0)) (by (with_reducible repeat (first | refine blk_drewN ?_ _ | refine blk_drew ?_ | refine blk_alloc ?_ _)); refine blk_far ?_ NB497_508.out _; (with_reducible repeat (first | refine blk_drewN ?_ _ | refine blk_drew ?_ | refine blk_alloc ?_ _)); refine blk_far ?_ NB497_508.out _; (with_reducible repeat (first | refine blk_drewN ?_ _ | refine blk_drew ?_ | refine blk_alloc ?_ _)); exact BK497.out) hb); have n2_ := Aside0.mk (blk_below (g := gb498) (o := .cells #[.int .i64 a3_0, .int .i64 a3_1] 26 (0, 0)) (by (with_reducible repeat (first | refine blk_drewN ?_ _ | refine blk_drew ?_ | refine blk_alloc ?_ _)); refine blk_far ?_ NB498_508.out _; (with_reducible repeat (first | refine blk_drewN ?_ _ | refine blk_drew ?_ | refine blk_alloc ?_ _)); refine blk_far ?_ NB498_508.out _; (with_reducible repeat (first | refine blk_drewN ?_ _ | refine blk_drew ?_ | refine blk_alloc ?_ _)); exact BK498.out) hb); have n3_ := Aside0.mk (blk_below (g := gb508) (o := .cells #[.int .i64 t505, .int .i64 t506] 28 (0, 0)) (by (with_reducible repeat (first | refine blk_drewN ?_ _ | refine blk_drew ?_ | refine blk_alloc ?_ _)); refine blk_put (cs := #[.int .i64 t505, .int .i64 0]) ?_ 1 _ rfl; (with_reducible repeat (first | refine blk_drewN ?_ _ | refine blk_drew ?_ | refine blk_alloc ?_ _)); refine blk_put (cs := #[.int .i64 0, .int .i64 0]) ?_ 0 _ rfl; (with_reducible repeat (first | refine blk_drewN ?_ _ | refine blk_drew ?_ | refine blk_alloc ?_ _)); exact BK508.out) hb); have n4_ := Aside0.mk (below_step (hb_ HB.out) hb); clear BK496; clear BK497; clear BK498; clear BK508; clear HB; have BK496 := n0_; have BK497 := n1_; have BK498 := n2_; have BK508 := n3_; have HB := n4_; clear n0_ n1_ n2_ n3_ n4_; (try clear hb); (try clear hb2); (try clear hk); (try clear hi); have hnb77 := NB497_498.out; have hnc77 := NB498_497.out; have hnb78 := NB497_508.out; have hnc78 := NB508_497.out; have hcz79_0 : w76.cell? ⟨gb497, 0, none⟩ = some (.int .i64 a2_0) := (blk_cell BK497.out 0).trans rfl; have hcz79_1 : w76.cell? ⟨gb497, 1, none⟩ = some (.int .i64 a2_1) := (blk_cell BK497.out 1).trans rfl; have hfz79_0 := blk_frozen BK497.out 0; have hfz79_1 := blk_frozen BK497.out 1) | (go_at_call 24; (with_reducible refine (comfitref02_Is.calls a2_0 a2_1 false _ A28.out).mono ?_); rintro e w80 ⟨rfl, hb⟩; have n0_ := Aside0.mk (bkb_ BK496.out hb); have n1_ := Aside0.mk (bkb_ BK497.out hb); have n2_ := Aside0.mk (bkb_ BK498.out hb); have n3_ := Aside0.mk (bkb_ BK508.out hb); have n4_ := Aside0.mk (below_step (hb_ HB.out) hb); clear BK496; clear BK497; clear BK498; clear BK508; clear HB; have BK496 := n0_; have BK497 := n1_; have BK498 := n2_; have BK508 := n3_; have HB := n4_; clear n0_ n1_ n2_ n3_ n4_; (try clear hb); (try clear hb2); (try clear hk); (try clear hi)))
      go_meet
      case rel => exact ⟨_, (true), (by first | rfl | (simp; done) | (simp [*]; done)), H', ⟨by first | omega | exact Nat.le_refl _⟩, ⟨by (with_reducible repeat (first | refine blk_drewN ?_ _ | refine blk_drew ?_ | refine blk_alloc ?_ _)); exact BK496.out⟩, ⟨by (with_reducible repeat (first | refine blk_drewN ?_ _ | refine blk_drew ?_ | refine blk_alloc ?_ _)); exact BK497.out⟩, ⟨by (with_reducible repeat (first | refine blk_drewN ?_ _ | refine blk_drew ?_ | refine blk_alloc ?_ _)); exact BK498.out⟩, ⟨by (with_reducible repeat (first | refine blk_drewN ?_ _ | refine blk_drew ?_ | refine blk_alloc ?_ _)); exact BK508.out⟩, ⟨by repeat (first | (with_reducible first | exact HB.out | apply below_alloc | apply pw_below_drewN | apply below_drew1 | refine below_set ?_ GE496.out | refine below_set ?_ GE497.out | refine below_set ?_ GE498.out | refine below_set ?_ GE508.out) | exact HB.out)⟩⟩
    ·replace c27 := Bool.eq_false_iff.mpr c27
     subst c27
     have H1 : (comfitlaw02_LotsWise.j0 k a0 a4 a5 t507 true a1_0 a1_1 a2_0 a2_1 a3_0 a3_1 t505 t506) = some r := by rw [if_neg (show ¬ (false = true) by decide)] at H; exact H
     clear H
     have H := H1
     clear H1
     have H' := Aside0.mk H
     clear H
     have hnb81 := NB496_497.out
     have hnc81 := NB497_496.out
     have hnb82 := NB496_498.out
     have hnc82 := NB498_496.out
     have hnb83 := NB496_508.out
     have hnc83 := NB508_496.out
     have hcz84_0 : w21.cell? ⟨gb496, 0, none⟩ = some (.int .i64 a1_0) := (blk_cell BK496.out 0).trans rfl
     have hcz84_1 : w21.cell? ⟨gb496, 1, none⟩ = some (.int .i64 a1_1) := (blk_cell BK496.out 1).trans rfl
     have hfz84_0 := blk_frozen BK496.out 0
     have hfz84_1 := blk_frozen BK496.out 1
     go_wp2_with (first | (go_at_call 24; (with_reducible refine (comfitref02_Is.calls a1_0 a1_1 false _ A26.out).mono ?_); rintro e w85 ⟨rfl, hb⟩; have n0_ := Aside0.mk (blk_below (g := gb496) (o := .cells #[.int .i64 a1_0, .int .i64 a1_1] 26 (0, 0)) (by (with_reducible repeat (first | refine blk_drewN ?_ _ | refine blk_drew ?_ | refine blk_alloc ?_ _)); refine blk_far ?_ NB496_508.out _; (with_reducible repeat (first | refine blk_drewN ?_ _ | refine blk_drew ?_ | refine blk_alloc ?_ _)); refine blk_far ?_ NB496_508.out _; (with_reducible repeat (first | refine blk_drewN ?_ _ | refine blk_drew ?_ | refine blk_alloc ?_ _)); exact BK496.out) hb); have n1_ := Aside0.mk (blk_below (g := gb497) (o := .cells #[.int .i64 a2_0, .int .i64 a2_1] 26 (0, 0)) (by (with_reducible repeat (first | refine blk_drewN ?_ _ | refine blk_drew ?_ | refine blk_alloc ?_ _)); refine blk_far ?_ NB497_508.out _; (with_reducible repeat (first | refine blk_drewN ?_ _ | refine blk_drew ?_ | refine blk_alloc ?_ _)); refine blk_far ?_ NB497_508.out _; (with_reducible repeat (first | refine blk_drewN ?_ _ | refine blk_drew ?_ | refine blk_alloc ?_ _)); exact BK497.out) hb); have n2_ := Aside0.mk (blk_below (g := gb498) (o := .cells #[.int .i64 a3_0, .int .i64 a3_1] 26 (0, 0)) (by (with_reducible repeat (first | refine blk_drewN ?_ _ | refine blk_drew ?_ | refine blk_alloc ?_ _)); refine blk_far ?_ NB498_508.out _; (with_reducible repeat (first | refine blk_drewN ?_ _ | refine blk_drew ?_ | refine blk_alloc ?_ _)); refine blk_far ?_ NB498_508.out _; (with_reducible repeat (first | refine blk_drewN ?_ _ | refine blk_drew ?_ | refine blk_alloc ?_ _)); exact BK498.out) hb); have n3_ := Aside0.mk (blk_below (g := gb508) (o := .cells #[.int .i64 t505, .int .i64 t506] 28 (0, 0)) (by (with_reducible repeat (first | refine blk_drewN ?_ _ | refine blk_drew ?_ | refine blk_alloc ?_ _)); refine blk_put (cs := #[.int .i64 t505, .int .i64 0]) ?_ 1 _ rfl; (with_reducible repeat (first | refine blk_drewN ?_ _ | refine blk_drew ?_ | refine blk_alloc ?_ _)); refine blk_put (cs := #[.int .i64 0, .int .i64 0]) ?_ 0 _ rfl; (with_reducible repeat (first | refine blk_drewN ?_ _ | refine blk_drew ?_ | refine blk_alloc ?_ _)); exact BK508.out) hb); have n4_ := Aside0.mk (below_step (hb_ HB.out) hb); clear BK496; clear BK497; clear BK498; clear BK508; clear HB; have BK496 := n0_; have BK497 := n1_; have BK498 := n2_; have BK508 := n3_; have HB := n4_; clear n0_ n1_ n2_ n3_ n4_; (try clear hb); (try clear hb2); (try clear hk); (try clear hi)))
     go_meet
     case rel => exact ⟨_, (true), (by first | rfl | (simp; done) | (simp [*]; done)), H', ⟨by first | omega | exact Nat.le_refl _⟩, ⟨by (with_reducible repeat (first | refine blk_drewN ?_ _ | refine blk_drew ?_ | refine blk_alloc ?_ _)); exact BK496.out⟩, ⟨by (with_reducible repeat (first | refine blk_drewN ?_ _ | refine blk_drew ?_ | refine blk_alloc ?_ _)); exact BK497.out⟩, ⟨by (with_reducible repeat (first | refine blk_drewN ?_ _ | refine blk_drew ?_ | refine blk_alloc ?_ _)); exact BK498.out⟩, ⟨by (with_reducible repeat (first | refine blk_drewN ?_ _ | refine blk_drew ?_ | refine blk_alloc ?_ _)); exact BK508.out⟩, ⟨by repeat (first | (with_reducible first | exact HB.out | apply below_alloc | apply pw_below_drewN | apply below_drew1 | refine below_set ?_ GE496.out | refine below_set ?_ GE497.out | refine below_set ?_ GE498.out | refine below_set ?_ GE508.out) | exact HB.out)⟩⟩
 case rest =>
  clear HC11
  try clear c2
  try clear p2
  try clear c3
  try clear c4
  try clear c5
  try clear c6
  try clear p6
  try clear c7
  try clear c8
  try clear c21
  try clear c24
  try clear c24b0
  try clear c25
  try clear c25b0
  try clear c27
  try clear c29
  try clear c31
  try clear c33
  try clear c34
  try clear c35
  try clear c36
  try clear c39
  try clear c40
  try clear c43
  try clear c48
  try clear c49
  try clear c50
  try clear c53
  try clear c54
  try clear c57
  try clear c60
  try clear c61
  try clear c62
  try clear p64
  try clear c65
  try clear c66
  try clear c69
  try clear c72
  try clear c73
  try clear c74
  try clear c77
  try clear c78
  try clear c81
  try clear c82
  try clear c83
  try clear hcz37_0
  try clear hcz37_1
  try clear hcz41_0
  try clear hcz41_1
  try clear hcz44_0
  try clear hcz44_1
  try clear hcz46_0
  try clear hcz46_1
  try clear hcz47_0
  try clear hcz47_1
  try clear hcz51_0
  try clear hcz51_1
  try clear hcz55_0
  try clear hcz55_1
  try clear hcz58_0
  try clear hcz58_1
  try clear hcz63_0
  try clear hcz63_1
  try clear hcz67_0
  try clear hcz67_1
  try clear hcz70_0
  try clear hcz70_1
  try clear hcz75_0
  try clear hcz75_1
  try clear hcz79_0
  try clear hcz79_1
  try clear hcz84_0
  try clear hcz84_1
  try clear hfz37_0
  try clear hfz37_1
  try clear hfz41_0
  try clear hfz41_1
  try clear hfz44_0
  try clear hfz44_1
  try clear hfz46_0
  try clear hfz46_1
  try clear hfz47_0
  try clear hfz47_1
  try clear hfz51_0
  try clear hfz51_1
  try clear hfz55_0
  try clear hfz55_1
  try clear hfz58_0
  try clear hfz58_1
  try clear hfz63_0
  try clear hfz63_1
  try clear hfz67_0
  try clear hfz67_1
  try clear hfz70_0
  try clear hfz70_1
  try clear hfz75_0
  try clear hfz75_1
  try clear hfz79_0
  try clear hfz79_1
  try clear hfz84_0
  try clear hfz84_1
  obtain ⟨kq, x67_10, rfl, HA, HJ10, BK496, BK497, BK498, BK508, HB⟩ := hcut
  cases kq with
  | zero => exact absurd HA.out (by simp [comfitlaw02_LotsWise.j0])
  | succ kj10 =>
   have H := HA.out
   clear HA
   simp only [comfitlaw02_LotsWise.j0] at H
   by_cases c86 : x67_10 = true
   ·subst c86
    have H1 : ((comfitlaw02_none.f t505 t506).bind fun t513 => (if t513 = true then (if t507 = 2 then ((comfitlaw02_awake.f kj10).bind fun t514 => (some t514)) else (some false)) else (some false))) = some r := by rw [if_pos rfl] at H; exact H
    clear H
    have H := H1
    clear H1
    replace H := Option.bind_eq_some_iff.mp H
    obtain ⟨t513, A870, H⟩ := H
    replace H : (if t513 = true then (if t507 = 2 then ((comfitlaw02_awake.f kj10).bind fun t514 => (some t514)) else (some false)) else (some false)) = some r := H
    have A87 := Aside0.mk A870
    clear A870
    by_cases c88 : t513 = true
    ·subst c88
     have H1 : (if t507 = 2 then ((comfitlaw02_awake.f kj10).bind fun t514 => (some t514)) else (some false)) = some r := by rw [if_pos rfl] at H; exact H
     clear H
     have H := H1
     clear H1
     by_cases c89 : t507 = 2
     ·rw [if_pos c89] at H
      have c89b0 : (t507 == 2) = true := beq_iff_eq.mpr c89
      have c89b1 : (t507 != 2) = false := bne_eq_false_iff_eq.mpr c89
      clear c89
      replace H := Option.bind_eq_some_iff.mp H
      obtain ⟨t514, A900, H⟩ := H
      replace H : (some t514) = some r := H
      have A90 := Aside0.mk A900
      clear A900
      obtain rfl := Option.some.inj H
      have hnb91 := NB508_496.out
      have hnc91 := NB496_508.out
      have hnb92 := NB508_497.out
      have hnc92 := NB497_508.out
      have hnb93 := NB508_498.out
      have hnc93 := NB498_508.out
      have hcz94_0 : wc.cell? ⟨gb508, 0, none⟩ = some (.int .i64 t505) := (blk_cell BK508.out 0).trans rfl
      have hcz94_1 : wc.cell? ⟨gb508, 1, none⟩ = some (.int .i64 t506) := (blk_cell BK508.out 1).trans rfl
      have hfz94_0 := blk_frozen BK508.out 0
      have hfz94_1 := blk_frozen BK508.out 1
      go_wp2_with (first | ((with_reducible refine gate_callee (f := 25) rfl ?_); refine goesL_ (some 69) rfl rfl Try.func25 (by kernel_rfl) rfl #[.agg #[.int .i64 t505, .int .i64 t506]] rfl al_ ?_; (with_reducible refine (comfitlaw02_none.calls t505 t506 true _ A87.out).mono ?_); rintro e w95 ⟨rfl, hb⟩; refine ⟨_, rfl, ?_⟩; have n0_ := Aside0.mk (bkb_ BK496.out hb); have n1_ := Aside0.mk (bkb_ BK497.out hb); have n2_ := Aside0.mk (bkb_ BK498.out hb); have n3_ := Aside0.mk (bkb_ BK508.out hb); have n4_ := Aside0.mk (below_step (hb_ HB.out) hb); clear BK496; clear BK497; clear BK498; clear BK508; clear HB; have BK496 := n0_; have BK497 := n1_; have BK498 := n2_; have BK508 := n3_; have HB := n4_; clear n0_ n1_ n2_ n3_ n4_; (try clear hb); (try clear hb2); (try clear hk); (try clear hi)) | (go_at_call 26; (with_reducible refine (comfitlaw02_awake.calls kj10  t514 _ A90.out).mono ?_); rintro e w96 ⟨rfl, hb⟩; have n0_ := Aside0.mk (bkb_ BK496.out hb); have n1_ := Aside0.mk (bkb_ BK497.out hb); have n2_ := Aside0.mk (bkb_ BK498.out hb); have n3_ := Aside0.mk (bkb_ BK508.out hb); have n4_ := Aside0.mk (below_step (hb_ HB.out) hb); clear BK496; clear BK497; clear BK498; clear BK508; clear HB; have BK496 := n0_; have BK497 := n1_; have BK498 := n2_; have BK508 := n3_; have HB := n4_; clear n0_ n1_ n2_ n3_ n4_; (try clear hb); (try clear hb2); (try clear hk); (try clear hi)))
      go_ret
      exact ⟨by first | rfl | (simp [errW_none, errW_some] <;> rfl) | (simp [*, errW_none, errW_some] <;> rfl), by repeat (first | (with_reducible first | exact HB.out | apply below_alloc | apply pw_below_drewN | apply below_drew1 | refine below_set ?_ GE496.out | refine below_set ?_ GE497.out | refine below_set ?_ GE498.out | refine below_set ?_ GE508.out) | exact HB.out)⟩
     ·rw [if_neg c89] at H
      have c89b0 : (t507 == 2) = false := beq_eq_false_iff_ne.mpr c89
      have c89b1 : (t507 != 2) = true := bne_iff_ne.mpr c89
      obtain rfl := Option.some.inj H
      have hnb97 := NB508_496.out
      have hnc97 := NB496_508.out
      have hnb98 := NB508_497.out
      have hnc98 := NB497_508.out
      have hnb99 := NB508_498.out
      have hnc99 := NB498_508.out
      have hcz100_0 : wc.cell? ⟨gb508, 0, none⟩ = some (.int .i64 t505) := (blk_cell BK508.out 0).trans rfl
      have hcz100_1 : wc.cell? ⟨gb508, 1, none⟩ = some (.int .i64 t506) := (blk_cell BK508.out 1).trans rfl
      have hfz100_0 := blk_frozen BK508.out 0
      have hfz100_1 := blk_frozen BK508.out 1
      go_wp2_with (first | ((with_reducible refine gate_callee (f := 25) rfl ?_); refine goesL_ (some 69) rfl rfl Try.func25 (by kernel_rfl) rfl #[.agg #[.int .i64 t505, .int .i64 t506]] rfl al_ ?_; (with_reducible refine (comfitlaw02_none.calls t505 t506 true _ A87.out).mono ?_); rintro e w101 ⟨rfl, hb⟩; refine ⟨_, rfl, ?_⟩; have n0_ := Aside0.mk (bkb_ BK496.out hb); have n1_ := Aside0.mk (bkb_ BK497.out hb); have n2_ := Aside0.mk (bkb_ BK498.out hb); have n3_ := Aside0.mk (bkb_ BK508.out hb); have n4_ := Aside0.mk (below_step (hb_ HB.out) hb); clear BK496; clear BK497; clear BK498; clear BK508; clear HB; have BK496 := n0_; have BK497 := n1_; have BK498 := n2_; have BK508 := n3_; have HB := n4_; clear n0_ n1_ n2_ n3_ n4_; (try clear hb); (try clear hb2); (try clear hk); (try clear hi)))
      go_ret
      exact ⟨by first | rfl | (simp [errW_none, errW_some] <;> rfl) | (simp [*, errW_none, errW_some] <;> rfl), by repeat (first | (with_reducible first | exact HB.out | apply below_alloc | apply pw_below_drewN | apply below_drew1 | refine below_set ?_ GE496.out | refine below_set ?_ GE497.out | refine below_set ?_ GE498.out | refine below_set ?_ GE508.out) | exact HB.out)⟩
    ·replace c88 := Bool.eq_false_iff.mpr c88
     subst c88
     have H1 : (some false) = some r := by rw [if_neg (show ¬ (false = true) by decide)] at H; exact H
     clear H
     have H := H1
     clear H1
     obtain rfl := Option.some.inj H
     have hnb102 := NB508_496.out
     have hnc102 := NB496_508.out
     have hnb103 := NB508_497.out
     have hnc103 := NB497_508.out
     have hnb104 := NB508_498.out
     have hnc104 := NB498_508.out
     have hcz105_0 : wc.cell? ⟨gb508, 0, none⟩ = some (.int .i64 t505) := (blk_cell BK508.out 0).trans rfl
     have hcz105_1 : wc.cell? ⟨gb508, 1, none⟩ = some (.int .i64 t506) := (blk_cell BK508.out 1).trans rfl
     have hfz105_0 := blk_frozen BK508.out 0
     have hfz105_1 := blk_frozen BK508.out 1
     go_wp2_with (first | ((with_reducible refine gate_callee (f := 25) rfl ?_); refine goesL_ (some 69) rfl rfl Try.func25 (by kernel_rfl) rfl #[.agg #[.int .i64 t505, .int .i64 t506]] rfl al_ ?_; (with_reducible refine (comfitlaw02_none.calls t505 t506 false _ A87.out).mono ?_); rintro e w106 ⟨rfl, hb⟩; refine ⟨_, rfl, ?_⟩; have n0_ := Aside0.mk (bkb_ BK496.out hb); have n1_ := Aside0.mk (bkb_ BK497.out hb); have n2_ := Aside0.mk (bkb_ BK498.out hb); have n3_ := Aside0.mk (bkb_ BK508.out hb); have n4_ := Aside0.mk (below_step (hb_ HB.out) hb); clear BK496; clear BK497; clear BK498; clear BK508; clear HB; have BK496 := n0_; have BK497 := n1_; have BK498 := n2_; have BK508 := n3_; have HB := n4_; clear n0_ n1_ n2_ n3_ n4_; (try clear hb); (try clear hb2); (try clear hk); (try clear hi)))
     go_ret
     exact ⟨by first | rfl | (simp [errW_none, errW_some] <;> rfl) | (simp [*, errW_none, errW_some] <;> rfl), by repeat (first | (with_reducible first | exact HB.out | apply below_alloc | apply pw_below_drewN | apply below_drew1 | refine below_set ?_ GE496.out | refine below_set ?_ GE497.out | refine below_set ?_ GE498.out | refine below_set ?_ GE508.out) | exact HB.out)⟩
   ·replace c86 := Bool.eq_false_iff.mpr c86
    subst c86
    have H1 : ((comfitref02_Wise.f kj10 a0 a1_0 a1_1 a2_0 a2_1 a3_0 a3_1 a4 a5).bind fun bt515 => (if (t505 == bt515.1 && (t506 == bt515.2)) = true then (if t507 = 0 then ((comfitlaw02_awake.f kj10).bind fun t517 => (some t517)) else (some false)) else (some false))) = some r := by rw [if_neg (show ¬ (false = true) by decide)] at H; exact H
    clear H
    have H := H1
    clear H1
    replace H := Option.bind_eq_some_iff.mp H
    obtain ⟨⟨t515, t516⟩, A1070, H⟩ := H
    replace H : (if (t505 == t515 && (t506 == t516)) = true then (if t507 = 0 then ((comfitlaw02_awake.f kj10).bind fun t517 => (some t517)) else (some false)) else (some false)) = some r := H
    have A107 := Aside0.mk A1070
    clear A1070
    by_cases c108 : (t505 == t515 && (t506 == t516)) = true
    ·rw [if_pos c108] at H
     have c108b0 : (t505 == t515 && (t506 == t516)) = true := c108
     (try (have c108b1 : decide (t505 = t515 && (t506 == t516)) = true := by simpa using c108))
     (try (have c108b2 : (t505 == t515 && (t506 == t516)) = true := by simpa using c108))
     clear c108
     by_cases c109 : t507 = 0
     ·rw [if_pos c109] at H
      have c109b0 : (t507 == 0) = true := beq_iff_eq.mpr c109
      have c109b1 : (t507 != 0) = false := bne_eq_false_iff_eq.mpr c109
      clear c109
      replace H := Option.bind_eq_some_iff.mp H
      obtain ⟨t517, A1100, H⟩ := H
      replace H : (some t517) = some r := H
      have A110 := Aside0.mk A1100
      clear A1100
      obtain rfl := Option.some.inj H
      try go_wp2
      have n0_ := Aside0.mk (blk_drew BK496.out)
      have n1_ := Aside0.mk (blk_drew BK497.out)
      have n2_ := Aside0.mk (blk_drew BK498.out)
      have n3_ := Aside0.mk (blk_drew BK508.out)
      have n4_ := Aside0.mk (below_drew1 HB.out)
      clear BK496
      clear BK497
      clear BK498
      clear BK508
      clear HB
      have BK496 := n0_
      have BK497 := n1_
      have BK498 := n2_
      have BK508 := n3_
      have HB := n4_
      clear n0_ n1_ n2_ n3_ n4_
      refine start_ (n := 17) (S := fun w' => w'.cell? ⟨gb508, 0, none⟩ = some (.int .i64 t505) ∧ w'.cell? ⟨gb508, 1, none⟩ = some (.int .i64 t506) ∧ w'.cell? ⟨gb496, 0, none⟩ = some (.int .i64 a1_0) ∧ w'.cell? ⟨gb496, 1, none⟩ = some (.int .i64 a1_1) ∧ w'.cell? ⟨gb497, 0, none⟩ = some (.int .i64 a2_0) ∧ w'.cell? ⟨gb497, 1, none⟩ = some (.int .i64 a2_1) ∧ w'.cell? ⟨gb498, 0, none⟩ = some (.int .i64 a3_0) ∧ w'.cell? ⟨gb498, 1, none⟩ = some (.int .i64 a3_1)) (ds := []) #[false, false, false, false, false, false, false, false, false, false, false, false, false, false, false, false, false] (by kernel_rfl) rfl rfl ⟨(blk_cell BK508.out 0).trans rfl, (blk_cell BK508.out 1).trans rfl, (blk_cell BK496.out 0).trans rfl, (blk_cell BK496.out 1).trans rfl, (blk_cell BK497.out 0).trans rfl, (blk_cell BK497.out 1).trans rfl, (blk_cell BK498.out 0).trans rfl, (blk_cell BK498.out 1).trans rfl⟩ (fun hHeld => ?_); refine with_tabW comfitlaw02_LotsWise.tab4 comfitlaw02_LotsWise.bits4 (fun HT_ HW_ => ?_)
      generalize wc.drew = w111 at BK496 BK497 BK498 BK508 HB hHeld ⊢
      refine pure_ (i := 1) (N := some 78) (v := ?_) (a' := ?_) #[false, true, false, false, false, false, false, false, false, false, false, false, false, false, false, false, false] rfl rfl (any_of HT_.out (by kernel_rfl)) (fun _ _ _ h => h) (Or.inl ⟨by rfl, ?_⟩) ?_ ?_
      rotate_left
      ·intro w'
       go_simp
       with_reducible rfl
      rotate_left
      ·simp only [Act.put, List.setIfInBounds_toArray, List.set_cons_zero, List.set_cons_succ, i64_w, i32_w]
       rfl
      refine pure_ (i := 5) (N := some 82) (v := ?_) (a' := ?_) #[false, true, false, false, false, true, false, false, false, false, false, false, false, false, false, false, false] rfl rfl (any_of HT_.out (by kernel_rfl)) (fun _ _ _ h => h) (Or.inl ⟨by rfl, ?_⟩) ?_ ?_
      rotate_left
      ·intro w'
       go_simp
       with_reducible rfl
      rotate_left
      ·simp only [Act.put, List.setIfInBounds_toArray, List.set_cons_zero, List.set_cons_succ, i64_w, i32_w]
       rfl
      refine pure_ (i := 6) (N := some 83) (v := ?_) (a' := ?_) #[false, true, false, false, false, true, true, false, false, false, false, false, false, false, false, false, false] rfl rfl (any_of HT_.out (by kernel_rfl)) (fun _ _ _ h => h) (Or.inl ⟨by rfl, ?_⟩) ?_ ?_
      rotate_left
      ·intro w'
       go_simp
       with_reducible rfl
      rotate_left
      ·simp only [Act.put, List.setIfInBounds_toArray, List.set_cons_zero, List.set_cons_succ, i64_w, i32_w]
       rfl
      refine take_ (i := 0) (N := some 77) (v := ?_) (a' := ?_) #[true, true, false, false, false, true, true, false, false, false, false, false, false, false, false, false, false] rfl rfl (take_ofW HT_.out HW_.out (by kernel_rfl)) (fun _ _ _ h => h) (Or.inl ⟨by rfl, ?_⟩) hHeld ?_ ?_
      rotate_left
      ·rintro w' ⟨s0, s1, s2, s3, s4, s5, s6, s7⟩
       go_simp
       with_reducible rfl
      rotate_left
      ·simp only [Act.put, List.setIfInBounds_toArray, List.set_cons_zero, List.set_cons_succ, i64_w, i32_w]
       rfl
      refine take_ (i := 2) (N := some 79) (v := ?_) (a' := ?_) #[true, true, true, false, false, true, true, false, false, false, false, false, false, false, false, false, false] rfl rfl (take_ofW HT_.out HW_.out (by kernel_rfl)) (fun _ _ _ h => h) (Or.inl ⟨by rfl, ?_⟩) hHeld ?_ ?_
      rotate_left
      ·rintro w' ⟨s0, s1, s2, s3, s4, s5, s6, s7⟩
       go_simp
       with_reducible rfl
      rotate_left
      ·simp only [Act.put, List.setIfInBounds_toArray, List.set_cons_zero, List.set_cons_succ, i64_w, i32_w]
       rfl
      refine take_ (i := 3) (N := some 80) (v := ?_) (a' := ?_) #[true, true, true, true, false, true, true, false, false, false, false, false, false, false, false, false, false] rfl rfl (take_ofW HT_.out HW_.out (by kernel_rfl)) (fun _ _ _ h => h) (Or.inl ⟨by rfl, ?_⟩) hHeld ?_ ?_
      rotate_left
      ·rintro w' ⟨s0, s1, s2, s3, s4, s5, s6, s7⟩
       go_simp
       with_reducible rfl
      rotate_left
      ·simp only [Act.put, List.setIfInBounds_toArray, List.set_cons_zero, List.set_cons_succ, i64_w, i32_w]
       rfl
      refine take_ (i := 4) (N := some 81) (v := ?_) (a' := ?_) #[true, true, true, true, true, true, true, false, false, false, false, false, false, false, false, false, false] rfl rfl (take_ofW HT_.out HW_.out (by kernel_rfl)) (fun _ _ _ h => h) (Or.inl ⟨by rfl, ?_⟩) hHeld ?_ ?_
      rotate_left
      ·rintro w' ⟨s0, s1, s2, s3, s4, s5, s6, s7⟩
       go_simp
       with_reducible rfl
      rotate_left
      ·simp only [Act.put, List.setIfInBounds_toArray, List.set_cons_zero, List.set_cons_succ, i64_w, i32_w]
       rfl
      refine one_ (i := 7) (N := some 84) #[true, true, true, true, true, true, true, true, false, false, false, false, false, false, false, false, false] rfl rfl (one_of HT_.out (by kernel_rfl)) (by decide) (fun K hK => ?_)
      refine goes_ Try.func42 (by kernel_rfl) rfl #[.int .i64 a0, .agg #[.int .i64 a1_0, .int .i64 a1_1], .agg #[.int .i64 a2_0, .int .i64 a2_1], .agg #[.int .i64 a3_0, .int .i64 a3_1], .int .i64 a4, .int .i64 a5] (by rfl) rfl rfl al_ ?_
      with_reducible refine (comfitref02_Wise.calls kj10 a0 a1_0 a1_1 a2_0 a2_1 a3_0 a3_1 a4 a5 t515 t516 _ A107.out).mono ?_
      rintro e w112 ⟨rfl, hb⟩
      refine ⟨_, rfl, ?_⟩
      have n0_ := Aside0.mk (bkb_ BK496.out hb)
      have n1_ := Aside0.mk (bkb_ BK497.out hb)
      have n2_ := Aside0.mk (bkb_ BK498.out hb)
      have n3_ := Aside0.mk (bkb_ BK508.out hb)
      have n4_ := Aside0.mk (below_step (hb_ HB.out) hb)
      clear BK496
      clear BK497
      clear BK498
      clear BK508
      clear HB
      have BK496 := n0_
      have BK497 := n1_
      have BK498 := n2_
      have BK508 := n3_
      have HB := n4_
      clear n0_ n1_ n2_ n3_ n4_
      (try clear hb)
      (try clear hb2)
      (try clear hk)
      (try clear hi)
      refine hK.out _ _ ⟨(blk_cell BK508.out 0).trans rfl, (blk_cell BK508.out 1).trans rfl, (blk_cell BK496.out 0).trans rfl, (blk_cell BK496.out 1).trans rfl, (blk_cell BK497.out 0).trans rfl, (blk_cell BK497.out 1).trans rfl, (blk_cell BK498.out 0).trans rfl, (blk_cell BK498.out 1).trans rfl⟩ (fun hHeld => ?_)
      clear hK K
      refine norm_ (a' := ?_) ?_ ?_
      rotate_left
      ·show Act.put _ (some 84) _ = _
       simp only [Act.put, List.setIfInBounds_toArray, List.set_cons_zero, List.set_cons_succ, i64_w, i32_w]
       rfl
      refine pure_ (i := 8) (N := some 85) (v := ?_) (a' := ?_) #[true, true, true, true, true, true, true, true, true, false, false, false, false, false, false, false, false] rfl rfl (any_of HT_.out (by kernel_rfl)) (fun _ _ _ h => h) (Or.inl ⟨by rfl, ?_⟩) ?_ ?_
      rotate_left
      ·intro w'
       go_simp
       with_reducible rfl
      rotate_left
      ·simp only [Act.put, List.setIfInBounds_toArray, List.set_cons_zero, List.set_cons_succ, i64_w, i32_w]
       rfl
      refine pure_ (i := 9) (N := some 86) (v := ?_) (a' := ?_) #[true, true, true, true, true, true, true, true, true, true, false, false, false, false, false, false, false] rfl rfl (any_of HT_.out (by kernel_rfl)) (fun _ _ _ h => h) (Or.inl ⟨by rfl, ?_⟩) ?_ ?_
      rotate_left
      ·intro w'
       go_simp
       with_reducible rfl
      rotate_left
      ·simp only [Act.put, List.setIfInBounds_toArray, List.set_cons_zero, List.set_cons_succ, i64_w, i32_w]
       rfl
      refine pure_ (i := 10) (N := some 87) (v := ?_) (a' := ?_) #[true, true, true, true, true, true, true, true, true, true, true, false, false, false, false, false, false] rfl rfl (any_of HT_.out (by kernel_rfl)) (fun _ _ _ h => h) (Or.inl ⟨by rfl, ?_⟩) ?_ ?_
      rotate_left
      ·intro w'
       go_simp
       with_reducible rfl
      rotate_left
      ·simp only [Act.put, List.setIfInBounds_toArray, List.set_cons_zero, List.set_cons_succ, i64_w, i32_w]
       rfl
      refine pure_ (i := 11) (N := some 88) (v := ?_) (a' := ?_) #[true, true, true, true, true, true, true, true, true, true, true, true, false, false, false, false, false] rfl rfl (any_of HT_.out (by kernel_rfl)) (fun _ _ _ h => h) (Or.inl ⟨by rfl, ?_⟩) ?_ ?_
      rotate_left
      ·intro w'
       go_simp
       with_reducible rfl
      rotate_left
      ·simp only [Act.put, List.setIfInBounds_toArray, List.set_cons_zero, List.set_cons_succ, i64_w, i32_w]
       rfl
      refine pure_ (i := 12) (N := some 89) (v := ?_) (a' := ?_) #[true, true, true, true, true, true, true, true, true, true, true, true, true, false, false, false, false] rfl rfl (any_of HT_.out (by kernel_rfl)) (fun _ _ _ h => h) (Or.inl ⟨by rfl, ?_⟩) ?_ ?_
      rotate_left
      ·intro w'
       go_simp
       with_reducible rfl
      rotate_left
      ·simp only [Act.put, List.setIfInBounds_toArray, List.set_cons_zero, List.set_cons_succ, i64_w, i32_w]
       rfl
      refine pure_ (i := 13) (N := some 90) (v := ?_) (a' := ?_) #[true, true, true, true, true, true, true, true, true, true, true, true, true, true, false, false, false] rfl rfl (any_of HT_.out (by kernel_rfl)) (fun _ _ _ h => h) (Or.inl ⟨by rfl, ?_⟩) ?_ ?_
      rotate_left
      ·intro w'
       go_simp
       with_reducible rfl
      rotate_left
      ·simp only [Act.put, List.setIfInBounds_toArray, List.set_cons_zero, List.set_cons_succ, i64_w, i32_w]
       rfl
      refine one_ (i := 14) (N := some 91) #[true, true, true, true, true, true, true, true, true, true, true, true, true, true, true, false, false] rfl rfl (one_of HT_.out (by kernel_rfl)) (by decide) (fun K hK => ?_)
      refine goes_ Try.func26 (by kernel_rfl) rfl #[] (by rfl) rfl rfl al_ ?_
      with_reducible refine (comfitlaw02_awake.calls kj10  t517 _ A110.out).mono ?_
      rintro e w113 ⟨rfl, hb⟩
      refine ⟨_, rfl, ?_⟩
      have n0_ := Aside0.mk (bkb_ BK496.out hb)
      have n1_ := Aside0.mk (bkb_ BK497.out hb)
      have n2_ := Aside0.mk (bkb_ BK498.out hb)
      have n3_ := Aside0.mk (bkb_ BK508.out hb)
      have n4_ := Aside0.mk (below_step (hb_ HB.out) hb)
      clear BK496
      clear BK497
      clear BK498
      clear BK508
      clear HB
      have BK496 := n0_
      have BK497 := n1_
      have BK498 := n2_
      have BK508 := n3_
      have HB := n4_
      clear n0_ n1_ n2_ n3_ n4_
      (try clear hb)
      (try clear hb2)
      (try clear hk)
      (try clear hi)
      refine hK.out _ _ ⟨(blk_cell BK508.out 0).trans rfl, (blk_cell BK508.out 1).trans rfl, (blk_cell BK496.out 0).trans rfl, (blk_cell BK496.out 1).trans rfl, (blk_cell BK497.out 0).trans rfl, (blk_cell BK497.out 1).trans rfl, (blk_cell BK498.out 0).trans rfl, (blk_cell BK498.out 1).trans rfl⟩ (fun hHeld => ?_)
      clear hK K
      refine norm_ (a' := ?_) ?_ ?_
      rotate_left
      ·show Act.put _ (some 91) _ = _
       simp only [Act.put, List.setIfInBounds_toArray, List.set_cons_zero, List.set_cons_succ, i64_w, i32_w]
       rfl
      refine pure_ (i := 15) (N := some 92) (v := ?_) (a' := ?_) #[true, true, true, true, true, true, true, true, true, true, true, true, true, true, true, true, false] rfl rfl (any_of HT_.out (by kernel_rfl)) (fun _ _ _ h => h) (Or.inl ⟨by rfl, ?_⟩) ?_ ?_
      rotate_left
      ·intro w'
       go_simp
       with_reducible rfl
      rotate_left
      ·simp only [Act.put, List.setIfInBounds_toArray, List.set_cons_zero, List.set_cons_succ, i64_w, i32_w]
       rfl
      refine pure_ (i := 16) (N := some 12) (v := ?_) (a' := ?_) #[true, true, true, true, true, true, true, true, true, true, true, true, true, true, true, true, true] rfl rfl (any_of HT_.out (by kernel_rfl)) (fun _ _ _ h => h) (Or.inl ⟨by rfl, ?_⟩) ?_ ?_
      rotate_left
      ·intro w'
       go_simp
       with_reducible rfl
      rotate_left
      ·simp only [Act.put, List.setIfInBounds_toArray, List.set_cons_zero, List.set_cons_succ, i64_w, i32_w]
       rfl
      refine done_ (done_of HT_.out (by kernel_rfl)) ?_
      try go_wp2
      go_ret
      exact ⟨by first | rfl | (simp [errW_none, errW_some] <;> rfl) | (simp [*, errW_none, errW_some] <;> rfl), by repeat (first | (with_reducible first | exact HB.out | apply below_alloc | apply pw_below_drewN | apply below_drew1 | refine below_set ?_ GE496.out | refine below_set ?_ GE497.out | refine below_set ?_ GE498.out | refine below_set ?_ GE508.out) | exact HB.out)⟩
     ·rw [if_neg c109] at H
      have c109b0 : (t507 == 0) = false := beq_eq_false_iff_ne.mpr c109
      have c109b1 : (t507 != 0) = true := bne_iff_ne.mpr c109
      obtain rfl := Option.some.inj H
      try go_wp2
      have n0_ := Aside0.mk (blk_drew BK496.out)
      have n1_ := Aside0.mk (blk_drew BK497.out)
      have n2_ := Aside0.mk (blk_drew BK498.out)
      have n3_ := Aside0.mk (blk_drew BK508.out)
      have n4_ := Aside0.mk (below_drew1 HB.out)
      clear BK496
      clear BK497
      clear BK498
      clear BK508
      clear HB
      have BK496 := n0_
      have BK497 := n1_
      have BK498 := n2_
      have BK508 := n3_
      have HB := n4_
      clear n0_ n1_ n2_ n3_ n4_
      refine start_ (n := 17) (S := fun w' => w'.cell? ⟨gb508, 0, none⟩ = some (.int .i64 t505) ∧ w'.cell? ⟨gb508, 1, none⟩ = some (.int .i64 t506) ∧ w'.cell? ⟨gb496, 0, none⟩ = some (.int .i64 a1_0) ∧ w'.cell? ⟨gb496, 1, none⟩ = some (.int .i64 a1_1) ∧ w'.cell? ⟨gb497, 0, none⟩ = some (.int .i64 a2_0) ∧ w'.cell? ⟨gb497, 1, none⟩ = some (.int .i64 a2_1) ∧ w'.cell? ⟨gb498, 0, none⟩ = some (.int .i64 a3_0) ∧ w'.cell? ⟨gb498, 1, none⟩ = some (.int .i64 a3_1)) (ds := []) #[false, false, false, false, false, false, false, false, false, false, false, false, false, false, false, false, false] (by kernel_rfl) rfl rfl ⟨(blk_cell BK508.out 0).trans rfl, (blk_cell BK508.out 1).trans rfl, (blk_cell BK496.out 0).trans rfl, (blk_cell BK496.out 1).trans rfl, (blk_cell BK497.out 0).trans rfl, (blk_cell BK497.out 1).trans rfl, (blk_cell BK498.out 0).trans rfl, (blk_cell BK498.out 1).trans rfl⟩ (fun hHeld => ?_); refine with_tabW comfitlaw02_LotsWise.tab4 comfitlaw02_LotsWise.bits4 (fun HT_ HW_ => ?_)
      generalize wc.drew = w114 at BK496 BK497 BK498 BK508 HB hHeld ⊢
      refine pure_ (i := 1) (N := some 78) (v := ?_) (a' := ?_) #[false, true, false, false, false, false, false, false, false, false, false, false, false, false, false, false, false] rfl rfl (any_of HT_.out (by kernel_rfl)) (fun _ _ _ h => h) (Or.inl ⟨by rfl, ?_⟩) ?_ ?_
      rotate_left
      ·intro w'
       go_simp
       with_reducible rfl
      rotate_left
      ·simp only [Act.put, List.setIfInBounds_toArray, List.set_cons_zero, List.set_cons_succ, i64_w, i32_w]
       rfl
      refine pure_ (i := 5) (N := some 82) (v := ?_) (a' := ?_) #[false, true, false, false, false, true, false, false, false, false, false, false, false, false, false, false, false] rfl rfl (any_of HT_.out (by kernel_rfl)) (fun _ _ _ h => h) (Or.inl ⟨by rfl, ?_⟩) ?_ ?_
      rotate_left
      ·intro w'
       go_simp
       with_reducible rfl
      rotate_left
      ·simp only [Act.put, List.setIfInBounds_toArray, List.set_cons_zero, List.set_cons_succ, i64_w, i32_w]
       rfl
      refine pure_ (i := 6) (N := some 83) (v := ?_) (a' := ?_) #[false, true, false, false, false, true, true, false, false, false, false, false, false, false, false, false, false] rfl rfl (any_of HT_.out (by kernel_rfl)) (fun _ _ _ h => h) (Or.inl ⟨by rfl, ?_⟩) ?_ ?_
      rotate_left
      ·intro w'
       go_simp
       with_reducible rfl
      rotate_left
      ·simp only [Act.put, List.setIfInBounds_toArray, List.set_cons_zero, List.set_cons_succ, i64_w, i32_w]
       rfl
      refine take_ (i := 0) (N := some 77) (v := ?_) (a' := ?_) #[true, true, false, false, false, true, true, false, false, false, false, false, false, false, false, false, false] rfl rfl (take_ofW HT_.out HW_.out (by kernel_rfl)) (fun _ _ _ h => h) (Or.inl ⟨by rfl, ?_⟩) hHeld ?_ ?_
      rotate_left
      ·rintro w' ⟨s0, s1, s2, s3, s4, s5, s6, s7⟩
       go_simp
       with_reducible rfl
      rotate_left
      ·simp only [Act.put, List.setIfInBounds_toArray, List.set_cons_zero, List.set_cons_succ, i64_w, i32_w]
       rfl
      refine take_ (i := 2) (N := some 79) (v := ?_) (a' := ?_) #[true, true, true, false, false, true, true, false, false, false, false, false, false, false, false, false, false] rfl rfl (take_ofW HT_.out HW_.out (by kernel_rfl)) (fun _ _ _ h => h) (Or.inl ⟨by rfl, ?_⟩) hHeld ?_ ?_
      rotate_left
      ·rintro w' ⟨s0, s1, s2, s3, s4, s5, s6, s7⟩
       go_simp
       with_reducible rfl
      rotate_left
      ·simp only [Act.put, List.setIfInBounds_toArray, List.set_cons_zero, List.set_cons_succ, i64_w, i32_w]
       rfl
      refine take_ (i := 3) (N := some 80) (v := ?_) (a' := ?_) #[true, true, true, true, false, true, true, false, false, false, false, false, false, false, false, false, false] rfl rfl (take_ofW HT_.out HW_.out (by kernel_rfl)) (fun _ _ _ h => h) (Or.inl ⟨by rfl, ?_⟩) hHeld ?_ ?_
      rotate_left
      ·rintro w' ⟨s0, s1, s2, s3, s4, s5, s6, s7⟩
       go_simp
       with_reducible rfl
      rotate_left
      ·simp only [Act.put, List.setIfInBounds_toArray, List.set_cons_zero, List.set_cons_succ, i64_w, i32_w]
       rfl
      refine take_ (i := 4) (N := some 81) (v := ?_) (a' := ?_) #[true, true, true, true, true, true, true, false, false, false, false, false, false, false, false, false, false] rfl rfl (take_ofW HT_.out HW_.out (by kernel_rfl)) (fun _ _ _ h => h) (Or.inl ⟨by rfl, ?_⟩) hHeld ?_ ?_
      rotate_left
      ·rintro w' ⟨s0, s1, s2, s3, s4, s5, s6, s7⟩
       go_simp
       with_reducible rfl
      rotate_left
      ·simp only [Act.put, List.setIfInBounds_toArray, List.set_cons_zero, List.set_cons_succ, i64_w, i32_w]
       rfl
      refine one_ (i := 7) (N := some 84) #[true, true, true, true, true, true, true, true, false, false, false, false, false, false, false, false, false] rfl rfl (one_of HT_.out (by kernel_rfl)) (by decide) (fun K hK => ?_)
      refine goes_ Try.func42 (by kernel_rfl) rfl #[.int .i64 a0, .agg #[.int .i64 a1_0, .int .i64 a1_1], .agg #[.int .i64 a2_0, .int .i64 a2_1], .agg #[.int .i64 a3_0, .int .i64 a3_1], .int .i64 a4, .int .i64 a5] (by rfl) rfl rfl al_ ?_
      with_reducible refine (comfitref02_Wise.calls kj10 a0 a1_0 a1_1 a2_0 a2_1 a3_0 a3_1 a4 a5 t515 t516 _ A107.out).mono ?_
      rintro e w115 ⟨rfl, hb⟩
      refine ⟨_, rfl, ?_⟩
      have n0_ := Aside0.mk (bkb_ BK496.out hb)
      have n1_ := Aside0.mk (bkb_ BK497.out hb)
      have n2_ := Aside0.mk (bkb_ BK498.out hb)
      have n3_ := Aside0.mk (bkb_ BK508.out hb)
      have n4_ := Aside0.mk (below_step (hb_ HB.out) hb)
      clear BK496
      clear BK497
      clear BK498
      clear BK508
      clear HB
      have BK496 := n0_
      have BK497 := n1_
      have BK498 := n2_
      have BK508 := n3_
      have HB := n4_
      clear n0_ n1_ n2_ n3_ n4_
      (try clear hb)
      (try clear hb2)
      (try clear hk)
      (try clear hi)
      refine hK.out _ _ ⟨(blk_cell BK508.out 0).trans rfl, (blk_cell BK508.out 1).trans rfl, (blk_cell BK496.out 0).trans rfl, (blk_cell BK496.out 1).trans rfl, (blk_cell BK497.out 0).trans rfl, (blk_cell BK497.out 1).trans rfl, (blk_cell BK498.out 0).trans rfl, (blk_cell BK498.out 1).trans rfl⟩ (fun hHeld => ?_)
      clear hK K
      refine norm_ (a' := ?_) ?_ ?_
      rotate_left
      ·show Act.put _ (some 84) _ = _
       simp only [Act.put, List.setIfInBounds_toArray, List.set_cons_zero, List.set_cons_succ, i64_w, i32_w]
       rfl
      refine pure_ (i := 8) (N := some 85) (v := ?_) (a' := ?_) #[true, true, true, true, true, true, true, true, true, false, false, false, false, false, false, false, false] rfl rfl (any_of HT_.out (by kernel_rfl)) (fun _ _ _ h => h) (Or.inl ⟨by rfl, ?_⟩) ?_ ?_
      rotate_left
      ·intro w'
       go_simp
       with_reducible rfl
      rotate_left
      ·simp only [Act.put, List.setIfInBounds_toArray, List.set_cons_zero, List.set_cons_succ, i64_w, i32_w]
       rfl
      refine pure_ (i := 9) (N := some 86) (v := ?_) (a' := ?_) #[true, true, true, true, true, true, true, true, true, true, false, false, false, false, false, false, false] rfl rfl (any_of HT_.out (by kernel_rfl)) (fun _ _ _ h => h) (Or.inl ⟨by rfl, ?_⟩) ?_ ?_
      rotate_left
      ·intro w'
       go_simp
       with_reducible rfl
      rotate_left
      ·simp only [Act.put, List.setIfInBounds_toArray, List.set_cons_zero, List.set_cons_succ, i64_w, i32_w]
       rfl
      refine pure_ (i := 10) (N := some 87) (v := ?_) (a' := ?_) #[true, true, true, true, true, true, true, true, true, true, true, false, false, false, false, false, false] rfl rfl (any_of HT_.out (by kernel_rfl)) (fun _ _ _ h => h) (Or.inl ⟨by rfl, ?_⟩) ?_ ?_
      rotate_left
      ·intro w'
       go_simp
       with_reducible rfl
      rotate_left
      ·simp only [Act.put, List.setIfInBounds_toArray, List.set_cons_zero, List.set_cons_succ, i64_w, i32_w]
       rfl
      refine pure_ (i := 11) (N := some 88) (v := ?_) (a' := ?_) #[true, true, true, true, true, true, true, true, true, true, true, true, false, false, false, false, false] rfl rfl (any_of HT_.out (by kernel_rfl)) (fun _ _ _ h => h) (Or.inl ⟨by rfl, ?_⟩) ?_ ?_
      rotate_left
      ·intro w'
       go_simp
       with_reducible rfl
      rotate_left
      ·simp only [Act.put, List.setIfInBounds_toArray, List.set_cons_zero, List.set_cons_succ, i64_w, i32_w]
       rfl
      refine pure_ (i := 12) (N := some 89) (v := ?_) (a' := ?_) #[true, true, true, true, true, true, true, true, true, true, true, true, true, false, false, false, false] rfl rfl (any_of HT_.out (by kernel_rfl)) (fun _ _ _ h => h) (Or.inl ⟨by rfl, ?_⟩) ?_ ?_
      rotate_left
      ·intro w'
       go_simp
       with_reducible rfl
      rotate_left
      ·simp only [Act.put, List.setIfInBounds_toArray, List.set_cons_zero, List.set_cons_succ, i64_w, i32_w]
       rfl
      refine pure_ (i := 13) (N := some 90) (v := ?_) (a' := ?_) #[true, true, true, true, true, true, true, true, true, true, true, true, true, true, false, false, false] rfl rfl (any_of HT_.out (by kernel_rfl)) (fun _ _ _ h => h) (Or.inl ⟨by rfl, ?_⟩) ?_ ?_
      rotate_left
      ·intro w'
       go_simp
       with_reducible rfl
      rotate_left
      ·simp only [Act.put, List.setIfInBounds_toArray, List.set_cons_zero, List.set_cons_succ, i64_w, i32_w]
       rfl
      refine pure_ (i := 14) (N := some 91) (v := undef) (a' := ?_) #[true, true, true, true, true, true, true, true, true, true, true, true, true, true, true, false, false] rfl rfl (any_of HT_.out (by kernel_rfl)) (fun _ _ _ h => h) (Or.inr ⟨by rfl, rfl⟩) ?_ ?_
      rotate_left
      ·simp only [Act.put, List.setIfInBounds_toArray, List.set_cons_zero, List.set_cons_succ, i64_w, i32_w]
       rfl
      refine pure_ (i := 15) (N := some 92) (v := ?_) (a' := ?_) #[true, true, true, true, true, true, true, true, true, true, true, true, true, true, true, true, false] rfl rfl (any_of HT_.out (by kernel_rfl)) (fun _ _ _ h => h) (Or.inl ⟨by rfl, ?_⟩) ?_ ?_
      rotate_left
      ·intro w'
       go_simp
       with_reducible rfl
      rotate_left
      ·simp only [Act.put, List.setIfInBounds_toArray, List.set_cons_zero, List.set_cons_succ, i64_w, i32_w]
       rfl
      refine pure_ (i := 16) (N := some 12) (v := ?_) (a' := ?_) #[true, true, true, true, true, true, true, true, true, true, true, true, true, true, true, true, true] rfl rfl (any_of HT_.out (by kernel_rfl)) (fun _ _ _ h => h) (Or.inl ⟨by rfl, ?_⟩) ?_ ?_
      rotate_left
      ·intro w'
       go_simp
       with_reducible rfl
      rotate_left
      ·simp only [Act.put, List.setIfInBounds_toArray, List.set_cons_zero, List.set_cons_succ, i64_w, i32_w]
       rfl
      refine done_ (done_of HT_.out (by kernel_rfl)) ?_
      try go_wp2
      go_ret
      exact ⟨by first | rfl | (simp [errW_none, errW_some] <;> rfl) | (simp [*, errW_none, errW_some] <;> rfl), by repeat (first | (with_reducible first | exact HB.out | apply below_alloc | apply pw_below_drewN | apply below_drew1 | refine below_set ?_ GE496.out | refine below_set ?_ GE497.out | refine below_set ?_ GE498.out | refine below_set ?_ GE508.out) | exact HB.out)⟩
    ·rw [if_neg c108] at H
     have c108b0 : (t505 == t515 && (t506 == t516)) = false := by simpa using c108
     (try (have c108b1 : decide (t505 = t515 && (t506 == t516)) = false := by simpa using c108))
     (try (have c108b2 : (t505 == t515 && (t506 == t516)) = false := by simpa using c108))
     (try (have c108b3 : ¬ (t505 = t515 && (t506 == t516)) := by simpa using c108))
     clear c108
     obtain rfl := Option.some.inj H
     try go_wp2
     have n0_ := Aside0.mk (blk_drew BK496.out)
     have n1_ := Aside0.mk (blk_drew BK497.out)
     have n2_ := Aside0.mk (blk_drew BK498.out)
     have n3_ := Aside0.mk (blk_drew BK508.out)
     have n4_ := Aside0.mk (below_drew1 HB.out)
     clear BK496
     clear BK497
     clear BK498
     clear BK508
     clear HB
     have BK496 := n0_
     have BK497 := n1_
     have BK498 := n2_
     have BK508 := n3_
     have HB := n4_
     clear n0_ n1_ n2_ n3_ n4_
     refine start_ (n := 17) (S := fun w' => w'.cell? ⟨gb508, 0, none⟩ = some (.int .i64 t505) ∧ w'.cell? ⟨gb508, 1, none⟩ = some (.int .i64 t506) ∧ w'.cell? ⟨gb496, 0, none⟩ = some (.int .i64 a1_0) ∧ w'.cell? ⟨gb496, 1, none⟩ = some (.int .i64 a1_1) ∧ w'.cell? ⟨gb497, 0, none⟩ = some (.int .i64 a2_0) ∧ w'.cell? ⟨gb497, 1, none⟩ = some (.int .i64 a2_1) ∧ w'.cell? ⟨gb498, 0, none⟩ = some (.int .i64 a3_0) ∧ w'.cell? ⟨gb498, 1, none⟩ = some (.int .i64 a3_1)) (ds := []) #[false, false, false, false, false, false, false, false, false, false, false, false, false, false, false, false, false] (by kernel_rfl) rfl rfl ⟨(blk_cell BK508.out 0).trans rfl, (blk_cell BK508.out 1).trans rfl, (blk_cell BK496.out 0).trans rfl, (blk_cell BK496.out 1).trans rfl, (blk_cell BK497.out 0).trans rfl, (blk_cell BK497.out 1).trans rfl, (blk_cell BK498.out 0).trans rfl, (blk_cell BK498.out 1).trans rfl⟩ (fun hHeld => ?_); refine with_tabW comfitlaw02_LotsWise.tab4 comfitlaw02_LotsWise.bits4 (fun HT_ HW_ => ?_)
     generalize wc.drew = w116 at BK496 BK497 BK498 BK508 HB hHeld ⊢
     refine pure_ (i := 1) (N := some 78) (v := ?_) (a' := ?_) #[false, true, false, false, false, false, false, false, false, false, false, false, false, false, false, false, false] rfl rfl (any_of HT_.out (by kernel_rfl)) (fun _ _ _ h => h) (Or.inl ⟨by rfl, ?_⟩) ?_ ?_
     rotate_left
     ·intro w'
      go_simp
      with_reducible rfl
     rotate_left
     ·simp only [Act.put, List.setIfInBounds_toArray, List.set_cons_zero, List.set_cons_succ, i64_w, i32_w]
      rfl
     refine pure_ (i := 5) (N := some 82) (v := ?_) (a' := ?_) #[false, true, false, false, false, true, false, false, false, false, false, false, false, false, false, false, false] rfl rfl (any_of HT_.out (by kernel_rfl)) (fun _ _ _ h => h) (Or.inl ⟨by rfl, ?_⟩) ?_ ?_
     rotate_left
     ·intro w'
      go_simp
      with_reducible rfl
     rotate_left
     ·simp only [Act.put, List.setIfInBounds_toArray, List.set_cons_zero, List.set_cons_succ, i64_w, i32_w]
      rfl
     refine pure_ (i := 6) (N := some 83) (v := ?_) (a' := ?_) #[false, true, false, false, false, true, true, false, false, false, false, false, false, false, false, false, false] rfl rfl (any_of HT_.out (by kernel_rfl)) (fun _ _ _ h => h) (Or.inl ⟨by rfl, ?_⟩) ?_ ?_
     rotate_left
     ·intro w'
      go_simp
      with_reducible rfl
     rotate_left
     ·simp only [Act.put, List.setIfInBounds_toArray, List.set_cons_zero, List.set_cons_succ, i64_w, i32_w]
      rfl
     refine take_ (i := 0) (N := some 77) (v := ?_) (a' := ?_) #[true, true, false, false, false, true, true, false, false, false, false, false, false, false, false, false, false] rfl rfl (take_ofW HT_.out HW_.out (by kernel_rfl)) (fun _ _ _ h => h) (Or.inl ⟨by rfl, ?_⟩) hHeld ?_ ?_
     rotate_left
     ·rintro w' ⟨s0, s1, s2, s3, s4, s5, s6, s7⟩
      go_simp
      with_reducible rfl
     rotate_left
     ·simp only [Act.put, List.setIfInBounds_toArray, List.set_cons_zero, List.set_cons_succ, i64_w, i32_w]
      rfl
     refine take_ (i := 2) (N := some 79) (v := ?_) (a' := ?_) #[true, true, true, false, false, true, true, false, false, false, false, false, false, false, false, false, false] rfl rfl (take_ofW HT_.out HW_.out (by kernel_rfl)) (fun _ _ _ h => h) (Or.inl ⟨by rfl, ?_⟩) hHeld ?_ ?_
     rotate_left
     ·rintro w' ⟨s0, s1, s2, s3, s4, s5, s6, s7⟩
      go_simp
      with_reducible rfl
     rotate_left
     ·simp only [Act.put, List.setIfInBounds_toArray, List.set_cons_zero, List.set_cons_succ, i64_w, i32_w]
      rfl
     refine take_ (i := 3) (N := some 80) (v := ?_) (a' := ?_) #[true, true, true, true, false, true, true, false, false, false, false, false, false, false, false, false, false] rfl rfl (take_ofW HT_.out HW_.out (by kernel_rfl)) (fun _ _ _ h => h) (Or.inl ⟨by rfl, ?_⟩) hHeld ?_ ?_
     rotate_left
     ·rintro w' ⟨s0, s1, s2, s3, s4, s5, s6, s7⟩
      go_simp
      with_reducible rfl
     rotate_left
     ·simp only [Act.put, List.setIfInBounds_toArray, List.set_cons_zero, List.set_cons_succ, i64_w, i32_w]
      rfl
     refine take_ (i := 4) (N := some 81) (v := ?_) (a' := ?_) #[true, true, true, true, true, true, true, false, false, false, false, false, false, false, false, false, false] rfl rfl (take_ofW HT_.out HW_.out (by kernel_rfl)) (fun _ _ _ h => h) (Or.inl ⟨by rfl, ?_⟩) hHeld ?_ ?_
     rotate_left
     ·rintro w' ⟨s0, s1, s2, s3, s4, s5, s6, s7⟩
      go_simp
      with_reducible rfl
     rotate_left
     ·simp only [Act.put, List.setIfInBounds_toArray, List.set_cons_zero, List.set_cons_succ, i64_w, i32_w]
      rfl
     refine one_ (i := 7) (N := some 84) #[true, true, true, true, true, true, true, true, false, false, false, false, false, false, false, false, false] rfl rfl (one_of HT_.out (by kernel_rfl)) (by decide) (fun K hK => ?_)
     refine goes_ Try.func42 (by kernel_rfl) rfl #[.int .i64 a0, .agg #[.int .i64 a1_0, .int .i64 a1_1], .agg #[.int .i64 a2_0, .int .i64 a2_1], .agg #[.int .i64 a3_0, .int .i64 a3_1], .int .i64 a4, .int .i64 a5] (by rfl) rfl rfl al_ ?_
     with_reducible refine (comfitref02_Wise.calls kj10 a0 a1_0 a1_1 a2_0 a2_1 a3_0 a3_1 a4 a5 t515 t516 _ A107.out).mono ?_
     rintro e w117 ⟨rfl, hb⟩
     refine ⟨_, rfl, ?_⟩
     have n0_ := Aside0.mk (bkb_ BK496.out hb)
     have n1_ := Aside0.mk (bkb_ BK497.out hb)
     have n2_ := Aside0.mk (bkb_ BK498.out hb)
     have n3_ := Aside0.mk (bkb_ BK508.out hb)
     have n4_ := Aside0.mk (below_step (hb_ HB.out) hb)
     clear BK496
     clear BK497
     clear BK498
     clear BK508
     clear HB
     have BK496 := n0_
     have BK497 := n1_
     have BK498 := n2_
     have BK508 := n3_
     have HB := n4_
     clear n0_ n1_ n2_ n3_ n4_
     (try clear hb)
     (try clear hb2)
     (try clear hk)
     (try clear hi)
     refine hK.out _ _ ⟨(blk_cell BK508.out 0).trans rfl, (blk_cell BK508.out 1).trans rfl, (blk_cell BK496.out 0).trans rfl, (blk_cell BK496.out 1).trans rfl, (blk_cell BK497.out 0).trans rfl, (blk_cell BK497.out 1).trans rfl, (blk_cell BK498.out 0).trans rfl, (blk_cell BK498.out 1).trans rfl⟩ (fun hHeld => ?_)
     clear hK K
     refine norm_ (a' := ?_) ?_ ?_
     rotate_left
     ·show Act.put _ (some 84) _ = _
      simp only [Act.put, List.setIfInBounds_toArray, List.set_cons_zero, List.set_cons_succ, i64_w, i32_w]
      rfl
     refine pure_ (i := 8) (N := some 85) (v := ?_) (a' := ?_) #[true, true, true, true, true, true, true, true, true, false, false, false, false, false, false, false, false] rfl rfl (any_of HT_.out (by kernel_rfl)) (fun _ _ _ h => h) (Or.inl ⟨by rfl, ?_⟩) ?_ ?_
     rotate_left
     ·intro w'
      go_simp
      with_reducible rfl
     rotate_left
     ·simp only [Act.put, List.setIfInBounds_toArray, List.set_cons_zero, List.set_cons_succ, i64_w, i32_w]
      rfl
     refine pure_ (i := 9) (N := some 86) (v := ?_) (a' := ?_) #[true, true, true, true, true, true, true, true, true, true, false, false, false, false, false, false, false] rfl rfl (any_of HT_.out (by kernel_rfl)) (fun _ _ _ h => h) (Or.inl ⟨by rfl, ?_⟩) ?_ ?_
     rotate_left
     ·intro w'
      go_simp
      with_reducible rfl
     rotate_left
     ·simp only [Act.put, List.setIfInBounds_toArray, List.set_cons_zero, List.set_cons_succ, i64_w, i32_w]
      rfl
     refine pure_ (i := 10) (N := some 87) (v := undef) (a' := ?_) #[true, true, true, true, true, true, true, true, true, true, true, false, false, false, false, false, false] rfl rfl (any_of HT_.out (by kernel_rfl)) (fun _ _ _ h => h) (Or.inr ⟨by rfl, rfl⟩) ?_ ?_
     rotate_left
     ·simp only [Act.put, List.setIfInBounds_toArray, List.set_cons_zero, List.set_cons_succ, i64_w, i32_w]
      rfl
     refine pure_ (i := 11) (N := some 88) (v := undef) (a' := ?_) #[true, true, true, true, true, true, true, true, true, true, true, true, false, false, false, false, false] rfl rfl (any_of HT_.out (by kernel_rfl)) (fun _ _ _ h => h) (Or.inr ⟨by rfl, rfl⟩) ?_ ?_
     rotate_left
     ·simp only [Act.put, List.setIfInBounds_toArray, List.set_cons_zero, List.set_cons_succ, i64_w, i32_w]
      rfl
     refine pure_ (i := 12) (N := some 89) (v := ?_) (a' := ?_) #[true, true, true, true, true, true, true, true, true, true, true, true, true, false, false, false, false] rfl rfl (any_of HT_.out (by kernel_rfl)) (fun _ _ _ h => h) (Or.inl ⟨by rfl, ?_⟩) ?_ ?_
     rotate_left
     ·intro w'
      go_simp
      with_reducible rfl
     rotate_left
     ·simp only [Act.put, List.setIfInBounds_toArray, List.set_cons_zero, List.set_cons_succ, i64_w, i32_w]
      rfl
     refine pure_ (i := 13) (N := some 90) (v := ?_) (a' := ?_) #[true, true, true, true, true, true, true, true, true, true, true, true, true, true, false, false, false] rfl rfl (any_of HT_.out (by kernel_rfl)) (fun _ _ _ h => h) (Or.inl ⟨by rfl, ?_⟩) ?_ ?_
     rotate_left
     ·intro w'
      go_simp
      with_reducible rfl
     rotate_left
     ·simp only [Act.put, List.setIfInBounds_toArray, List.set_cons_zero, List.set_cons_succ, i64_w, i32_w]
      rfl
     refine pure_ (i := 14) (N := some 91) (v := undef) (a' := ?_) #[true, true, true, true, true, true, true, true, true, true, true, true, true, true, true, false, false] rfl rfl (any_of HT_.out (by kernel_rfl)) (fun _ _ _ h => h) (Or.inr ⟨by rfl, rfl⟩) ?_ ?_
     rotate_left
     ·simp only [Act.put, List.setIfInBounds_toArray, List.set_cons_zero, List.set_cons_succ, i64_w, i32_w]
      rfl
     refine pure_ (i := 15) (N := some 92) (v := ?_) (a' := ?_) #[true, true, true, true, true, true, true, true, true, true, true, true, true, true, true, true, false] rfl rfl (any_of HT_.out (by kernel_rfl)) (fun _ _ _ h => h) (Or.inl ⟨by rfl, ?_⟩) ?_ ?_
     rotate_left
     ·intro w'
      go_simp
      with_reducible rfl
     rotate_left
     ·simp only [Act.put, List.setIfInBounds_toArray, List.set_cons_zero, List.set_cons_succ, i64_w, i32_w]
      rfl
     refine pure_ (i := 16) (N := some 12) (v := ?_) (a' := ?_) #[true, true, true, true, true, true, true, true, true, true, true, true, true, true, true, true, true] rfl rfl (any_of HT_.out (by kernel_rfl)) (fun _ _ _ h => h) (Or.inl ⟨by rfl, ?_⟩) ?_ ?_
     rotate_left
     ·intro w'
      go_simp
      with_reducible rfl
     rotate_left
     ·simp only [Act.put, List.setIfInBounds_toArray, List.set_cons_zero, List.set_cons_succ, i64_w, i32_w]
      rfl
     refine done_ (done_of HT_.out (by kernel_rfl)) ?_
     try go_wp2
     go_ret
     exact ⟨by first | rfl | (simp [errW_none, errW_some] <;> rfl) | (simp [*, errW_none, errW_some] <;> rfl), by repeat (first | (with_reducible first | exact HB.out | apply below_alloc | apply pw_below_drewN | apply below_drew1 | refine below_set ?_ GE496.out | refine below_set ?_ GE497.out | refine below_set ?_ GE498.out | refine below_set ?_ GE508.out) | exact HB.out)⟩

end Go.Proofs.Ytdppnmfljfdhaaa.X
