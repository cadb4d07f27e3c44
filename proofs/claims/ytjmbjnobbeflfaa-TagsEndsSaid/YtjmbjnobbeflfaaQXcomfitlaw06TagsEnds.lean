/- Written by a program of this session (wip/tools/xprint.py, which calls the kit's print): Go functions as Lean functions, and for each the proof that the machine's call does what it says; no conditions but those that each theorem names. -/
import Derived.Test.YtjmbjnobbeflfaaQX0
import Derived.Test.YtjmbjnobbeflfaaQXE
import Derived.Test.YtjmbjnobbeflfaaQXEq
import Derived.Test.YtjmbjnobbeflfaaQXM
import Derived.Test.YtjmbjnobbeflfaaQXO
import Derived.Test.YtjmbjnobbeflfaaQXRG
import Derived.Test.YtjmbjnobbeflfaaQXRJ
import Derived.Test.YtjmbjnobbeflfaaQXcomfitref06CheckCircle
import Derived.Test.YtjmbjnobbeflfaaQXcomfitref06Circle
import Derived.Test.YtjmbjnobbeflfaaQXtagsCheckCircle
import Derived.Test.YtjmbjnobbeflfaaQXtagsCircle
namespace Go.Proofs.Ytjmbjnobbeflfaa.X
open Go.RowKit Go.Proofs.YtjmbjnobbeflfaaW.PrintWords Go.Proofs.YtjmbjnobbeflfaaW.PrintLast Go.Proofs.YtjmbjnobbeflfaaW.PrintMore
attribute [local go_sem] max2_int min2_int max_two min_two max_three min_three max_four min_four   -- for this text's walks alone
set_option linter.unusedVariables false
set_option linter.unusedSimpArgs false

attribute [local go_sem high] eqA23
/-! ### comfitlaw06_TagsEnds: function 5 -/
def comfitlaw06_TagsEnds.j0 : Nat → List (S39) → Int → Int → Int → Bool → Int → Bool → Int → Int → Int → Int → Int → Int → Option (Bool)
 | 0, _, _, _, _, _, _, _, _, _, _, _, _, _ => none
 | k + 1, x0, x7, x8, x10, x11, x12, x46, x359000, x359001, x360000, x360001, x372000, x372001 => if x46 = true then (if x7 = 0 then (if (x372000 == 0 && (x372001 == 0)) = true then (if x11 = true then (some false) else (if x8 = 2 then (if x10 = 2 then (if x12 = 2 then ((comfitlaw06_awake.f k).bind fun t379 => (some t379)) else (some false)) else (some false)) else (some false))) else (some false)) else (some false)) else ((comfitref06_Ends.f k x0 x359000 x359001).bind fun bt380 => ((comfitref06_Circle.f k x0 x359000 x359001).bind fun bt382 => (if x7 = bt380.1 then (if x8 = bt380.2 then (if (x372000 == bt382.1 && (x372001 == bt382.2.1)) = true then (if x10 = bt382.2.2 then ((comfitref06_CheckCircle.f k x0 x359000 x359001 x360000 x360001).bind fun t386 => (if (x11 == t386) = true then (if x12 = 0 then ((comfitlaw06_awake.f k).bind fun t387 => (some t387)) else (some false)) else (some false))) else (some false)) else (some false)) else (some false)) else (some false))))
def comfitlaw06_TagsEnds.f (k : Nat) (l0 : List (S39)) (a1_0 : Int) (a1_1 : Int) (a2_0 : Int) (a2_1 : Int) : Option (Bool) := (comfitlaw06_Of.f k l0).bind fun t360 => ((tags_Ends.f k t360 a1_0 a1_1).bind fun bt363 => ((comfitlaw06_Of.f k l0).bind fun t365 => ((tags_Circle.f k t365 a1_0 a1_1).bind fun bt368 => ((comfitlaw06_Of.f k l0).bind fun t372 => ((tags_CheckCircle.f k t372 a1_0 a1_1 a2_0 a2_1).bind fun bt375 => ((comfitref06_Machine.f k l0).bind fun t377 => (if t377 = true then ((comfitref06_Jars.f a1_0 a1_1).bind fun t378 => (comfitlaw06_TagsEnds.j0 k l0 bt363.1 bt363.2 bt368.2.2 bt375.1 bt375.2 (!t378) a1_0 a1_1 a2_0 a2_1 bt368.1 bt368.2.1)) else (comfitlaw06_TagsEnds.j0 k l0 bt363.1 bt363.2 bt368.2.2 bt375.1 bt375.2 true a1_0 a1_1 a2_0 a2_1 bt368.1 bt368.2.1))))))))
def comfitlaw06_TagsEnds.T1 : Bool × List (List Nat × List Nat) := (true, [([], []), ([0], [0]), ([], []), ([1, 2, 1], [1, 2]), ([3], [3]), ([4], [4]), ([4], [4]), ([5, 3, 0, 1, 2, 3, 4, 5], [5]), ([6, 7, 0, 1, 2, 3, 4, 5, 6, 7], [6])])
def comfitlaw06_TagsEnds.B1 : List Nat := [0, 1, 0, 7, 15, 31, 31, 63, 255]
theorem comfitlaw06_TagsEnds.tab1 : rtab .any (opsOf Try.f5 1) = comfitlaw06_TagsEnds.T1 := by kernel_rfl
theorem comfitlaw06_TagsEnds.bits1 : waitsOk comfitlaw06_TagsEnds.T1.2 comfitlaw06_TagsEnds.B1 = true := by kernel_rfl
def comfitlaw06_TagsEnds.T2 : Bool × List (List Nat × List Nat) := (true, [([], []), ([0], [0]), ([], []), ([1, 2, 1], [1, 2]), ([3], [3]), ([4], [4]), ([4], [4]), ([], []), ([7, 5, 3, 0, 1, 2, 3, 4, 5, 7], [5, 7]), ([6, 8, 0, 1, 2, 3, 4, 5, 6, 7, 8], [6])])
def comfitlaw06_TagsEnds.B2 : List Nat := [0, 1, 0, 7, 15, 31, 31, 0, 191, 511]
theorem comfitlaw06_TagsEnds.tab2 : rtab .any (opsOf Try.f5 2) = comfitlaw06_TagsEnds.T2 := by kernel_rfl
theorem comfitlaw06_TagsEnds.bits2 : waitsOk comfitlaw06_TagsEnds.T2.2 comfitlaw06_TagsEnds.B2 = true := by kernel_rfl
def comfitlaw06_TagsEnds.T3 : Bool × List (List Nat × List Nat) := (true, [([], []), ([0], [0]), ([], []), ([], []), ([1, 2, 3, 1], [1, 2, 3]), ([4], [4]), ([5], [5]), ([5], [5]), ([6, 4, 0, 1, 2, 3, 4, 5, 6], [6]), ([7, 8, 0, 1, 2, 3, 4, 5, 6, 7, 8], [7])])
def comfitlaw06_TagsEnds.B3 : List Nat := [0, 1, 0, 0, 15, 31, 63, 63, 127, 511]
theorem comfitlaw06_TagsEnds.tab3 : rtab .any (opsOf Try.f5 3) = comfitlaw06_TagsEnds.T3 := by kernel_rfl
theorem comfitlaw06_TagsEnds.bits3 : waitsOk comfitlaw06_TagsEnds.T3.2 comfitlaw06_TagsEnds.B3 = true := by kernel_rfl
set_option maxHeartbeats 8000000 in
set_option maxRecDepth 100000 in
theorem comfitlaw06_TagsEnds.calls (k : Nat) (A0 : Option Addr) (c0 : Nat) (l0 : List (S39)) (a1_0 : Int) (a1_1 : Int) (a2_0 : Int) (a2_1 : Int) (r : Bool) (w : World) (hr0 : Kd.C k39 w A0 l0.length l0) (hc0 : l0.length ≤ c0) (h : comfitlaw06_TagsEnds.f k l0 a1_0 a1_1 a2_0 a2_1 = some r) :
  Calls Try.prog 5 #[.slice A0 l0.length c0, .agg #[.int .i64 a1_0, .int .i64 a1_1], .agg #[.int .i64 a2_0, .int .i64 a2_1]] w fun e w' => e = .returned (.bool r) ∧ Below w.heap.size w w' := by
 have hu23 := Try.underlying23
 have HR0 := Aside0.mk hr0
 have HC0 := Aside0.mk hc0
 clear hr0 hc0
 have HB := Aside0.mk (Below.refl w.heap.size w)
 have H : ((comfitlaw06_Of.f k l0).bind fun t360 => ((tags_Ends.f k t360 a1_0 a1_1).bind fun bt363 => ((comfitlaw06_Of.f k l0).bind fun t365 => ((tags_Circle.f k t365 a1_0 a1_1).bind fun bt368 => ((comfitlaw06_Of.f k l0).bind fun t372 => ((tags_CheckCircle.f k t372 a1_0 a1_1 a2_0 a2_1).bind fun bt375 => ((comfitref06_Machine.f k l0).bind fun t377 => (if t377 = true then ((comfitref06_Jars.f a1_0 a1_1).bind fun t378 => (comfitlaw06_TagsEnds.j0 k l0 bt363.1 bt363.2 bt368.2.2 bt375.1 bt375.2 (!t378) a1_0 a1_1 a2_0 a2_1 bt368.1 bt368.2.1)) else (comfitlaw06_TagsEnds.j0 k l0 bt363.1 bt363.2 bt368.2.2 bt375.1 bt375.2 true a1_0 a1_1 a2_0 a2_1 bt368.1 bt368.2.1))))))))) = some r := h
 clear h
 replace H := Option.bind_eq_some_iff.mp H
 obtain ⟨t360, A40, H⟩ := H
 replace H : ((tags_Ends.f k t360 a1_0 a1_1).bind fun bt363 => ((comfitlaw06_Of.f k l0).bind fun t365 => ((tags_Circle.f k t365 a1_0 a1_1).bind fun bt368 => ((comfitlaw06_Of.f k l0).bind fun t372 => ((tags_CheckCircle.f k t372 a1_0 a1_1 a2_0 a2_1).bind fun bt375 => ((comfitref06_Machine.f k l0).bind fun t377 => (if t377 = true then ((comfitref06_Jars.f a1_0 a1_1).bind fun t378 => (comfitlaw06_TagsEnds.j0 k l0 bt363.1 bt363.2 bt368.2.2 bt375.1 bt375.2 (!t378) a1_0 a1_1 a2_0 a2_1 bt368.1 bt368.2.1)) else (comfitlaw06_TagsEnds.j0 k l0 bt363.1 bt363.2 bt368.2.2 bt375.1 bt375.2 true a1_0 a1_1 a2_0 a2_1 bt368.1 bt368.2.1)))))))) = some r := H
 have A4 := Aside0.mk A40
 clear A40
 replace H := Option.bind_eq_some_iff.mp H
 obtain ⟨⟨t363, t364⟩, A50, H⟩ := H
 replace H : ((comfitlaw06_Of.f k l0).bind fun t365 => ((tags_Circle.f k t365 a1_0 a1_1).bind fun bt368 => ((comfitlaw06_Of.f k l0).bind fun t372 => ((tags_CheckCircle.f k t372 a1_0 a1_1 a2_0 a2_1).bind fun bt375 => ((comfitref06_Machine.f k l0).bind fun t377 => (if t377 = true then ((comfitref06_Jars.f a1_0 a1_1).bind fun t378 => (comfitlaw06_TagsEnds.j0 k l0 t363 t364 bt368.2.2 bt375.1 bt375.2 (!t378) a1_0 a1_1 a2_0 a2_1 bt368.1 bt368.2.1)) else (comfitlaw06_TagsEnds.j0 k l0 t363 t364 bt368.2.2 bt375.1 bt375.2 true a1_0 a1_1 a2_0 a2_1 bt368.1 bt368.2.1))))))) = some r := H
 have A5 := Aside0.mk A50
 clear A50
 replace H := Option.bind_eq_some_iff.mp H
 obtain ⟨t365, A60, H⟩ := H
 replace H : ((tags_Circle.f k t365 a1_0 a1_1).bind fun bt368 => ((comfitlaw06_Of.f k l0).bind fun t372 => ((tags_CheckCircle.f k t372 a1_0 a1_1 a2_0 a2_1).bind fun bt375 => ((comfitref06_Machine.f k l0).bind fun t377 => (if t377 = true then ((comfitref06_Jars.f a1_0 a1_1).bind fun t378 => (comfitlaw06_TagsEnds.j0 k l0 t363 t364 bt368.2.2 bt375.1 bt375.2 (!t378) a1_0 a1_1 a2_0 a2_1 bt368.1 bt368.2.1)) else (comfitlaw06_TagsEnds.j0 k l0 t363 t364 bt368.2.2 bt375.1 bt375.2 true a1_0 a1_1 a2_0 a2_1 bt368.1 bt368.2.1)))))) = some r := H
 have A6 := Aside0.mk A60
 clear A60
 replace H := Option.bind_eq_some_iff.mp H
 obtain ⟨⟨t368, t369, t370⟩, A70, H⟩ := H
 replace H : ((comfitlaw06_Of.f k l0).bind fun t372 => ((tags_CheckCircle.f k t372 a1_0 a1_1 a2_0 a2_1).bind fun bt375 => ((comfitref06_Machine.f k l0).bind fun t377 => (if t377 = true then ((comfitref06_Jars.f a1_0 a1_1).bind fun t378 => (comfitlaw06_TagsEnds.j0 k l0 t363 t364 t370 bt375.1 bt375.2 (!t378) a1_0 a1_1 a2_0 a2_1 t368 t369)) else (comfitlaw06_TagsEnds.j0 k l0 t363 t364 t370 bt375.1 bt375.2 true a1_0 a1_1 a2_0 a2_1 t368 t369))))) = some r := H
 have A7 := Aside0.mk A70
 clear A70
 replace H := Option.bind_eq_some_iff.mp H
 obtain ⟨t372, A80, H⟩ := H
 replace H : ((tags_CheckCircle.f k t372 a1_0 a1_1 a2_0 a2_1).bind fun bt375 => ((comfitref06_Machine.f k l0).bind fun t377 => (if t377 = true then ((comfitref06_Jars.f a1_0 a1_1).bind fun t378 => (comfitlaw06_TagsEnds.j0 k l0 t363 t364 t370 bt375.1 bt375.2 (!t378) a1_0 a1_1 a2_0 a2_1 t368 t369)) else (comfitlaw06_TagsEnds.j0 k l0 t363 t364 t370 bt375.1 bt375.2 true a1_0 a1_1 a2_0 a2_1 t368 t369)))) = some r := H
 have A8 := Aside0.mk A80
 clear A80
 replace H := Option.bind_eq_some_iff.mp H
 obtain ⟨⟨t375, t376⟩, A90, H⟩ := H
 replace H : ((comfitref06_Machine.f k l0).bind fun t377 => (if t377 = true then ((comfitref06_Jars.f a1_0 a1_1).bind fun t378 => (comfitlaw06_TagsEnds.j0 k l0 t363 t364 t370 t375 t376 (!t378) a1_0 a1_1 a2_0 a2_1 t368 t369)) else (comfitlaw06_TagsEnds.j0 k l0 t363 t364 t370 t375 t376 true a1_0 a1_1 a2_0 a2_1 t368 t369))) = some r := H
 have A9 := Aside0.mk A90
 clear A90
 have HC10 := Aside0.mk H
 clear H
 go_enter Try.func5, Try.ntmps5
 try go_wp2_with (first | ((with_reducible refine gate_dst (N := 4) rfl ?_); refine box_event ?hg (N := 4) ?hd (cs := #[.int .i64 a1_0, .int .i64 a1_1]) (t := 23) ?hr ?_; (case hd => rfl); (case hg => rfl); (case hr => first | (go_simp; done) | (go_simp; rfl)); intro gb358 hg w11 hbox hb; have n0_ := Aside0.mk (below_step (hb_ HB.out) hb); have n1_ := Aside0.mk (hbox); have n2_ := Aside0.mk ((by rw [hg]; exact (below_size (hb_ HB.out)) : w.heap.size ≤ gb358)); have n3_ := Aside0.mk ((by rw [hg]; exact (below_size (hb_ HB.out)) : w.heap.size ≤ gb358)); clear HB; have HB := n0_; have BK358 := n1_; have GW358 := n2_; have GE358 := n3_; clear n0_ n1_ n2_ n3_; clear hb hbox hg) | ((with_reducible refine gate_dst (N := 5) rfl ?_); refine box_event ?hg (N := 5) ?hd (cs := #[.int .i64 a2_0, .int .i64 a2_1]) (t := 23) ?hr ?_; (case hd => rfl); (case hg => rfl); (case hr => first | (go_simp; done) | (go_simp; rfl)); intro gb359 hg w12 hbox hb; have n0_ := Aside0.mk (bkb_ BK358.out hb); have n1_ := Aside0.mk (below_step (hb_ HB.out) hb); have n2_ := Aside0.mk (hbox); have n3_ := Aside0.mk ((by rw [hg]; exact (below_size (hb_ HB.out)) : w.heap.size ≤ gb359)); have n4_ := Aside0.mk ((by rw [hg]; exact (below_size (hb_ HB.out)) : w.heap.size ≤ gb359)); have n5_ := Aside0.mk ((by rw [hg]; exact Nat.ne_of_lt (bkl_ BK358.out) : gb358 ≠ gb359)); have n6_ := Aside0.mk ((by rw [hg]; exact Nat.ne_of_gt (bkl_ BK358.out) : gb359 ≠ gb358)); clear BK358; clear HB; have BK358 := n0_; have HB := n1_; have BK359 := n2_; have GW359 := n3_; have GE359 := n4_; have NB358_359 := n5_; have NB359_358 := n6_; clear n0_ n1_ n2_ n3_ n4_ n5_ n6_; clear hb hbox hg))
 have n0_ := Aside0.mk (blk_drew BK358.out)
 have n1_ := Aside0.mk (blk_drew BK359.out)
 have n2_ := Aside0.mk (below_drew1 HB.out)
 clear BK358
 clear BK359
 clear HB
 have BK358 := n0_
 have BK359 := n1_
 have HB := n2_
 clear n0_ n1_ n2_
 refine start_ (n := 9) (S := fun w' => w'.cell? ⟨gb358, 0, none⟩ = some (.int .i64 a1_0) ∧ w'.cell? ⟨gb358, 1, none⟩ = some (.int .i64 a1_1)) (ds := []) #[false, false, false, false, false, false, false, false, false] (by kernel_rfl) rfl rfl ⟨(blk_cell BK358.out 0).trans rfl, (blk_cell BK358.out 1).trans rfl⟩ (fun hHeld => ?_); refine with_tabW comfitlaw06_TagsEnds.tab1 comfitlaw06_TagsEnds.bits1 (fun HT_ HW_ => ?_)
 generalize w12.drew = w13 at BK358 BK359 HB hHeld ⊢
 refine pure_ (i := 0) (N := some 18) (v := ?_) (a' := ?_) #[true, false, false, false, false, false, false, false, false] rfl rfl (any_of HT_.out (by kernel_rfl)) (fun _ _ _ h => h) (Or.inl ⟨by rfl, ?_⟩) ?_ ?_
 rotate_left
 ·intro w'
  go_simp
  with_reducible rfl
 rotate_left
 ·simp only [Act.put, List.setIfInBounds_toArray, List.set_cons_zero, List.set_cons_succ, i64_w, i32_w]
  rfl
 refine take_ (i := 2) (N := some 20) (v := ?_) (a' := ?_) #[true, false, true, false, false, false, false, false, false] rfl rfl (take_ofW HT_.out HW_.out (by kernel_rfl)) (fun _ _ _ h => h) (Or.inl ⟨by rfl, ?_⟩) hHeld ?_ ?_
 rotate_left
 ·rintro w' ⟨s0, s1⟩
  go_simp
  with_reducible rfl
 rotate_left
 ·simp only [Act.put, List.setIfInBounds_toArray, List.set_cons_zero, List.set_cons_succ, i64_w, i32_w]
  rfl
 refine one_ (i := 1) (N := some 19) #[true, true, true, false, false, false, false, false, false] rfl rfl (one_of HT_.out (by kernel_rfl)) (by decide) (fun K hK => ?_)
 refine goes_ Try.func11 (by kernel_rfl) rfl #[.slice A0 l0.length c0] (by rfl) rfl rfl al_ ?_
 with_reducible refine (comfitlaw06_Of.calls k _ _ l0 t360 _ ?side1 ?side2 A4.out).mono ?_
 (case side1 => exact kc_ (Kd.C_below HR0.out HB.out))
 (case side2 => exact HC0.out)
 rintro e w14 ⟨v361, rfl, ho0, hb⟩
 refine ⟨_, rfl, ?_⟩
 have n0_ := Aside0.mk (Kd.R_lower ho0 (below_size (hb_ HB.out)))
 have n1_ := Aside0.mk (bkb_ BK358.out hb)
 have n2_ := Aside0.mk (bkb_ BK359.out hb)
 have n3_ := Aside0.mk (below_step (hb_ HB.out) hb)
 clear BK358
 clear BK359
 clear HB
 have HO362 := n0_
 have BK358 := n1_
 have BK359 := n2_
 have HB := n3_
 clear n0_ n1_ n2_ n3_
 (try clear hb)
 (try clear hb2)
 (try clear hk)
 (try clear hi)
 (try clear ho0)
 obtain ⟨Ao15, co15, eo15⟩ := Kd.R_slice HO362.out
 (first | subst eo15 | (injection eo15 with f1_ f2_ f3_; have f4_ := f1_.symm; have f5_ := f3_.symm; clear f1_ f2_ f3_; subst f4_; subst f5_))
 refine hK.out _ _ ⟨(blk_cell BK358.out 0).trans rfl, (blk_cell BK358.out 1).trans rfl⟩ (fun hHeld => ?_)
 clear hK K
 refine norm_ (a' := ?_) ?_ ?_
 rotate_left
 ·show Act.put _ (some 19) _ = _
  simp only [Act.put, List.setIfInBounds_toArray, List.set_cons_zero, List.set_cons_succ, i64_w, i32_w]
  rfl
 refine one_ (i := 3) (N := some 21) #[true, true, true, true, false, false, false, false, false] rfl rfl (one_of HT_.out (by kernel_rfl)) (by decide) (fun K hK => ?_)
 refine goes_ Try.func16 (by kernel_rfl) rfl #[.slice Ao15 t360.length co15, .agg #[.int .i64 a1_0, .int .i64 a1_1]] (by rfl) rfl rfl al_ ?_
 with_reducible refine (tags_Ends.calls k _ _ t360 a1_0 a1_1 t363 t364 _ ?side1 ?side2 A5.out).mono ?_
 (case side1 => exact kc_ (Kd.R_reads' HO362.out).2.2)
 (case side2 => exact (Kd.R_reads' HO362.out).2.1)
 rintro e w16 ⟨rfl, hb⟩
 refine ⟨_, rfl, ?_⟩
 have n0_ := Aside0.mk (Kd.R_below (kr_ (HO362.out)) hb)
 have n1_ := Aside0.mk (bkb_ BK358.out hb)
 have n2_ := Aside0.mk (bkb_ BK359.out hb)
 have n3_ := Aside0.mk (below_step (hb_ HB.out) hb)
 clear HO362
 clear BK358
 clear BK359
 clear HB
 have HO362 := n0_
 have BK358 := n1_
 have BK359 := n2_
 have HB := n3_
 clear n0_ n1_ n2_ n3_
 (try clear hb)
 (try clear hb2)
 (try clear hk)
 (try clear hi)
 refine hK.out _ _ ⟨(blk_cell BK358.out 0).trans rfl, (blk_cell BK358.out 1).trans rfl⟩ (fun hHeld => ?_)
 clear hK K
 refine norm_ (a' := ?_) ?_ ?_
 rotate_left
 ·show Act.put _ (some 21) _ = _
  simp only [Act.put, List.setIfInBounds_toArray, List.set_cons_zero, List.set_cons_succ, i64_w, i32_w]
  rfl
 refine pure_ (i := 4) (N := some 17) (v := ?_) (a' := ?_) #[true, true, true, true, true, false, false, false, false] rfl rfl (any_of HT_.out (by kernel_rfl)) (fun _ _ _ h => h) (Or.inl ⟨by rfl, ?_⟩) ?_ ?_
 rotate_left
 ·intro w'
  go_simp
  with_reducible rfl
 rotate_left
 ·simp only [Act.put, List.setIfInBounds_toArray, List.set_cons_zero, List.set_cons_succ, i64_w, i32_w]
  rfl
 refine pure_ (i := 5) (N := some 22) (v := ?_) (a' := ?_) #[true, true, true, true, true, true, false, false, false] rfl rfl (any_of HT_.out (by kernel_rfl)) (fun _ _ _ h => h) (Or.inl ⟨by rfl, ?_⟩) ?_ ?_
 rotate_left
 ·intro w'
  go_simp
  with_reducible rfl
 rotate_left
 ·simp only [Act.put, List.setIfInBounds_toArray, List.set_cons_zero, List.set_cons_succ, i64_w, i32_w]
  rfl
 refine pure_ (i := 6) (N := some 23) (v := ?_) (a' := ?_) #[true, true, true, true, true, true, true, false, false] rfl rfl (any_of HT_.out (by kernel_rfl)) (fun _ _ _ h => h) (Or.inl ⟨by rfl, ?_⟩) ?_ ?_
 rotate_left
 ·intro w'
  go_simp
  with_reducible rfl
 rotate_left
 ·simp only [Act.put, List.setIfInBounds_toArray, List.set_cons_zero, List.set_cons_succ, i64_w, i32_w]
  rfl
 refine pure_ (i := 7) (N := some 7) (v := ?_) (a' := ?_) #[true, true, true, true, true, true, true, true, false] rfl rfl (any_of HT_.out (by kernel_rfl)) (fun _ _ _ h => h) (Or.inl ⟨by rfl, ?_⟩) ?_ ?_
 rotate_left
 ·intro w'
  go_simp
  with_reducible rfl
 rotate_left
 ·simp only [Act.put, List.setIfInBounds_toArray, List.set_cons_zero, List.set_cons_succ, i64_w, i32_w]
  rfl
 refine pure_ (i := 8) (N := some 8) (v := ?_) (a' := ?_) #[true, true, true, true, true, true, true, true, true] rfl rfl (any_of HT_.out (by kernel_rfl)) (fun _ _ _ h => h) (Or.inl ⟨by rfl, ?_⟩) ?_ ?_
 rotate_left
 ·intro w'
  go_simp
  with_reducible rfl
 rotate_left
 ·simp only [Act.put, List.setIfInBounds_toArray, List.set_cons_zero, List.set_cons_succ, i64_w, i32_w]
  rfl
 refine done_ (done_of HT_.out (by kernel_rfl)) ?_
 try go_wp2
 have n0_ := Aside0.mk (Kd.R_drew HO362.out)
 have n1_ := Aside0.mk (blk_drew BK358.out)
 have n2_ := Aside0.mk (blk_drew BK359.out)
 have n3_ := Aside0.mk (below_drew1 HB.out)
 clear HO362
 clear BK358
 clear BK359
 clear HB
 have HO362 := n0_
 have BK358 := n1_
 have BK359 := n2_
 have HB := n3_
 clear n0_ n1_ n2_ n3_
 refine start_ (n := 10) (S := fun w' => w'.cell? ⟨gb358, 0, none⟩ = some (.int .i64 a1_0) ∧ w'.cell? ⟨gb358, 1, none⟩ = some (.int .i64 a1_1)) (ds := []) #[false, false, false, false, false, false, false, false, false, false] (by kernel_rfl) rfl rfl ⟨(blk_cell BK358.out 0).trans rfl, (blk_cell BK358.out 1).trans rfl⟩ (fun hHeld => ?_); refine with_tabW comfitlaw06_TagsEnds.tab2 comfitlaw06_TagsEnds.bits2 (fun HT_ HW_ => ?_)
 generalize w16.drew = w17 at HO362 BK358 BK359 HB hHeld ⊢
 refine pure_ (i := 0) (N := some 25) (v := ?_) (a' := ?_) #[true, false, false, false, false, false, false, false, false, false] rfl rfl (any_of HT_.out (by kernel_rfl)) (fun _ _ _ h => h) (Or.inl ⟨by rfl, ?_⟩) ?_ ?_
 rotate_left
 ·intro w'
  go_simp
  with_reducible rfl
 rotate_left
 ·simp only [Act.put, List.setIfInBounds_toArray, List.set_cons_zero, List.set_cons_succ, i64_w, i32_w]
  rfl
 refine take_ (i := 2) (N := some 27) (v := ?_) (a' := ?_) #[true, false, true, false, false, false, false, false, false, false] rfl rfl (take_ofW HT_.out HW_.out (by kernel_rfl)) (fun _ _ _ h => h) (Or.inl ⟨by rfl, ?_⟩) hHeld ?_ ?_
 rotate_left
 ·rintro w' ⟨s0, s1⟩
  go_simp
  with_reducible rfl
 rotate_left
 ·simp only [Act.put, List.setIfInBounds_toArray, List.set_cons_zero, List.set_cons_succ, i64_w, i32_w]
  rfl
 refine join_ (σ := Value × Nat) 2 #[true, true, true, true, true, true, true, true, false, false] (fun s_ => [(26, s_.1), (28, .tuple #[.agg #[.int .i64 t368, .int .i64 t369], .int .i64 t370]), (9, .pointer (some ⟨s_.2, 0, none⟩)), (24, .tuple #[.agg #[.int .i64 t368, .int .i64 t369], .int .i64 t370]), (29, .agg #[.int .i64 t368, .int .i64 t369]), (30, .int .i64 t370)]) (fun s_ w' => (w'.cell? ⟨gb358, 0, none⟩ = some (.int .i64 a1_0) ∧ w'.cell? ⟨gb358, 1, none⟩ = some (.int .i64 a1_1)) ∧ (Kd.R k57 57 w' w.heap.size (fun k_ => some k_ ≠ (s_.1 : Value).ownBlock) (.slice Ao15 t360.length co15) t360) ∧ (Kd.R k57 57 w' w.heap.size (fun k_ => some k_ ≠ (.slice Ao15 t360.length co15 : Value).ownBlock) s_.1 t365) ∧ (w'.heap[gb358]? = some (.cells #[.int .i64 a1_0, .int .i64 a1_1] 23 (0, 0))) ∧ (w'.heap[gb359]? = some (.cells #[.int .i64 a2_0, .int .i64 a2_1] 23 (0, 0))) ∧ (w'.heap[s_.2]? = some (.cells #[.int .i64 0, .int .i64 0] 23 (0, 0))) ∧ (w.heap.size ≤ s_.2) ∧ (w.heap.size ≤ s_.2) ∧ (gb358 ≠ s_.2) ∧ (s_.2 ≠ gb358) ∧ (gb359 ≠ s_.2) ∧ (s_.2 ≠ gb359) ∧ (Below w.heap.size w w')) ?_ ?_
 rotate_left
 ·intro hCont
  refine two_ (i := 1) (j := 7) (Ni := some 26) (Nj := some 9) #[true, true, true, false, false, false, false, false, false, false] #[true, false, true, false, false, false, false, true, false, false] rfl rfl rfl rfl (two_of HT_.out (by kernel_rfl)) (by decide) (by decide) (fun K hK => ?_) (fun K hK => ?_)
  ·skip
   refine goes_ Try.func11 (by kernel_rfl) rfl #[.slice A0 l0.length c0] (by rfl) rfl rfl al_ ?_
   with_reducible refine (comfitlaw06_Of.calls k _ _ l0 t365 _ ?side1 ?side2 A6.out).mono ?_
   (case side1 => exact kc_ (Kd.C_below HR0.out HB.out))
   (case side2 => exact HC0.out)
   rintro e w18 ⟨v366, rfl, ho0, hb⟩
   refine ⟨_, rfl, ?_⟩
   have n0_ := Aside0.mk (Kd.R_elder' (kr_ (HO362.out)) (Kd.R_base ho0) hb)
   have n1_ := Aside0.mk (Kd.R_lower (Kd.R_new' ho0 (Kd.R_lt (kr_ (HO362.out)))) (below_size (hb_ HB.out)))
   have n2_ := Aside0.mk (bkb_ BK358.out hb)
   have n3_ := Aside0.mk (bkb_ BK359.out hb)
   have n4_ := Aside0.mk (below_step (hb_ HB.out) hb)
   clear HO362
   clear BK358
   clear BK359
   clear HB
   have HO362 := n0_
   have HO367 := n1_
   have BK358 := n2_
   have BK359 := n3_
   have HB := n4_
   clear n0_ n1_ n2_ n3_ n4_
   (try clear hb)
   (try clear hb2)
   (try clear hk)
   (try clear hi)
   (try clear ho0)
   obtain ⟨Ao19, co19, eo19⟩ := Kd.R_slice HO367.out
   (first | subst eo19 | (injection eo19 with f1_ f2_ f3_; have f4_ := f1_.symm; have f5_ := f3_.symm; clear f1_ f2_ f3_; subst f4_; subst f5_))
   refine hK.out _ _ ⟨(blk_cell BK358.out 0).trans rfl, (blk_cell BK358.out 1).trans rfl⟩ (fun hHeld => ?_)
   clear hK K
   refine norm_ (a' := ?_) ?_ ?_
   rotate_left
   ·show Act.put _ (some 26) _ = _
    simp only [Act.put, List.setIfInBounds_toArray, List.set_cons_zero, List.set_cons_succ, i64_w, i32_w]
    rfl
   refine two_ (i := 3) (j := 7) (Ni := some 28) (Nj := some 9) #[true, true, true, true, false, false, false, false, false, false] #[true, true, true, false, false, false, false, true, false, false] rfl rfl rfl rfl (two_of HT_.out (by kernel_rfl)) (by decide) (by decide) (fun K hK => ?_) (fun K hK => ?_)
   ·skip
    refine goes_ Try.func17 (by kernel_rfl) rfl #[.slice Ao19 t365.length co19, .agg #[.int .i64 a1_0, .int .i64 a1_1]] (by rfl) rfl rfl al_ ?_
    with_reducible refine (tags_Circle.calls k _ _ t365 a1_0 a1_1 t368 t369 t370 _ ?side1 ?side2 A7.out).mono ?_
    (case side1 => exact kc_ (Kd.R_reads' HO367.out).2.2)
    (case side2 => exact (Kd.R_reads' HO367.out).2.1)
    rintro e w20 ⟨rfl, hb⟩
    refine ⟨_, rfl, ?_⟩
    have n0_ := Aside0.mk (Kd.R_below (kr_ (HO362.out)) hb)
    have n1_ := Aside0.mk (Kd.R_below (kr_ (HO367.out)) hb)
    have n2_ := Aside0.mk (bkb_ BK358.out hb)
    have n3_ := Aside0.mk (bkb_ BK359.out hb)
    have n4_ := Aside0.mk (below_step (hb_ HB.out) hb)
    clear HO362
    clear HO367
    clear BK358
    clear BK359
    clear HB
    have HO362 := n0_
    have HO367 := n1_
    have BK358 := n2_
    have BK359 := n3_
    have HB := n4_
    clear n0_ n1_ n2_ n3_ n4_
    (try clear hb)
    (try clear hb2)
    (try clear hk)
    (try clear hi)
    refine hK.out _ _ ⟨(blk_cell BK358.out 0).trans rfl, (blk_cell BK358.out 1).trans rfl⟩ (fun hHeld => ?_)
    clear hK K
    refine norm_ (a' := ?_) ?_ ?_
    rotate_left
    ·show Act.put _ (some 28) _ = _
     simp only [Act.put, List.setIfInBounds_toArray, List.set_cons_zero, List.set_cons_succ, i64_w, i32_w]
     rfl
    refine pure_ (i := 4) (N := some 24) (v := ?_) (a' := ?_) #[true, true, true, true, true, false, false, false, false, false] rfl rfl (any_of HT_.out (by kernel_rfl)) (fun _ _ _ h => h) (Or.inl ⟨by rfl, ?_⟩) ?_ ?_
    rotate_left
    ·intro w'
     go_simp
     with_reducible rfl
    rotate_left
    ·simp only [Act.put, List.setIfInBounds_toArray, List.set_cons_zero, List.set_cons_succ, i64_w, i32_w]
     rfl
    refine pure_ (i := 5) (N := some 29) (v := ?_) (a' := ?_) #[true, true, true, true, true, true, false, false, false, false] rfl rfl (any_of HT_.out (by kernel_rfl)) (fun _ _ _ h => h) (Or.inl ⟨by rfl, ?_⟩) ?_ ?_
    rotate_left
    ·intro w'
     go_simp
     with_reducible rfl
    rotate_left
    ·simp only [Act.put, List.setIfInBounds_toArray, List.set_cons_zero, List.set_cons_succ, i64_w, i32_w]
     rfl
    refine pure_ (i := 6) (N := some 30) (v := ?_) (a' := ?_) #[true, true, true, true, true, true, true, false, false, false] rfl rfl (any_of HT_.out (by kernel_rfl)) (fun _ _ _ h => h) (Or.inl ⟨by rfl, ?_⟩) ?_ ?_
    rotate_left
    ·intro w'
     go_simp
     with_reducible rfl
    rotate_left
    ·simp only [Act.put, List.setIfInBounds_toArray, List.set_cons_zero, List.set_cons_succ, i64_w, i32_w]
     rfl
    refine one_ (i := 7) (N := some 9) #[true, true, true, true, true, true, true, true, false, false] rfl rfl (one_of HT_.out (by kernel_rfl)) (by decide) (fun K hK => ?_)
    refine box_step ?hg (N := 9) ?hd (cs := #[.int .i64 0, .int .i64 0]) (t := 23) ?hr ?_; (case hd => rfl); (case hg => rfl); (case hr => first | (go_simp; done) | (go_simp; rfl))
    intro gb371 hg w21 hbox hb
    have n0_ := Aside0.mk (Kd.R_below (kr_ (HO362.out)) hb)
    have n1_ := Aside0.mk (Kd.R_below (kr_ (HO367.out)) hb)
    have n2_ := Aside0.mk (bkb_ BK358.out hb)
    have n3_ := Aside0.mk (bkb_ BK359.out hb)
    have n4_ := Aside0.mk (below_step (hb_ HB.out) hb)
    have n5_ := Aside0.mk (hbox)
    have n6_ := Aside0.mk ((by rw [hg]; exact (below_size (hb_ HB.out)) : w.heap.size ≤ gb371))
    have n7_ := Aside0.mk ((by rw [hg]; exact (below_size (hb_ HB.out)) : w.heap.size ≤ gb371))
    have n8_ := Aside0.mk ((by rw [hg]; exact Nat.ne_of_lt (bkl_ BK358.out) : gb358 ≠ gb371))
    have n9_ := Aside0.mk ((by rw [hg]; exact Nat.ne_of_gt (bkl_ BK358.out) : gb371 ≠ gb358))
    have n10_ := Aside0.mk ((by rw [hg]; exact Nat.ne_of_lt (bkl_ BK359.out) : gb359 ≠ gb371))
    have n11_ := Aside0.mk ((by rw [hg]; exact Nat.ne_of_gt (bkl_ BK359.out) : gb371 ≠ gb359))
    clear HO362
    clear HO367
    clear BK358
    clear BK359
    clear HB
    have HO362 := n0_
    have HO367 := n1_
    have BK358 := n2_
    have BK359 := n3_
    have HB := n4_
    have BK371 := n5_
    have GW371 := n6_
    have GE371 := n7_
    have NB358_371 := n8_
    have NB371_358 := n9_
    have NB359_371 := n10_
    have NB371_359 := n11_
    clear n0_ n1_ n2_ n3_ n4_ n5_ n6_ n7_ n8_ n9_ n10_ n11_
    clear hb hbox hg
    refine hK.out _ _ ⟨(blk_cell BK358.out 0).trans rfl, (blk_cell BK358.out 1).trans rfl⟩ (fun hHeld => ?_)
    clear hK K
    refine norm_ (a' := ?_) ?_ ?_
    rotate_left
    ·show Act.put _ (some 9) _ = _
     simp only [Act.put, List.setIfInBounds_toArray, List.set_cons_zero, List.set_cons_succ, i64_w, i32_w]
     rfl
    exact norm_ (by simp only [putAll, Act.put, List.setIfInBounds_toArray, List.set_cons_zero, List.set_cons_succ]) (hCont (.slice Ao19 t365.length co19, gb371) _ ⟨hHeld, (by (with_reducible repeat (first | apply Kd.R_alloc | apply Kd.R_drewN | apply Kd.R_drew)); exact Kd.R_mono HO362.out (fun _ hk => hk.2)), (by (with_reducible repeat (first | apply Kd.R_alloc | apply Kd.R_drewN | apply Kd.R_drew)); exact Kd.R_mono HO367.out (fun _ hk => hk.2)), (bk_ BK358.out), (bk_ BK359.out), (bk_ BK371.out), GW371.out, GE371.out, NB358_371.out, NB371_358.out, NB359_371.out, NB371_359.out, (hb_ HB.out)⟩)
   ·skip
    refine box_step ?hg (N := 9) ?hd (cs := #[.int .i64 0, .int .i64 0]) (t := 23) ?hr ?_; (case hd => rfl); (case hg => rfl); (case hr => first | (go_simp; done) | (go_simp; rfl))
    intro gb371 hg w19 hbox hb
    have n0_ := Aside0.mk (Kd.R_below (kr_ (HO362.out)) hb)
    have n1_ := Aside0.mk (Kd.R_below (kr_ (HO367.out)) hb)
    have n2_ := Aside0.mk (bkb_ BK358.out hb)
    have n3_ := Aside0.mk (bkb_ BK359.out hb)
    have n4_ := Aside0.mk (below_step (hb_ HB.out) hb)
    have n5_ := Aside0.mk (hbox)
    have n6_ := Aside0.mk ((by rw [hg]; exact (below_size (hb_ HB.out)) : w.heap.size ≤ gb371))
    have n7_ := Aside0.mk ((by rw [hg]; exact (below_size (hb_ HB.out)) : w.heap.size ≤ gb371))
    have n8_ := Aside0.mk ((by rw [hg]; exact Nat.ne_of_lt (bkl_ BK358.out) : gb358 ≠ gb371))
    have n9_ := Aside0.mk ((by rw [hg]; exact Nat.ne_of_gt (bkl_ BK358.out) : gb371 ≠ gb358))
    have n10_ := Aside0.mk ((by rw [hg]; exact Nat.ne_of_lt (bkl_ BK359.out) : gb359 ≠ gb371))
    have n11_ := Aside0.mk ((by rw [hg]; exact Nat.ne_of_gt (bkl_ BK359.out) : gb371 ≠ gb359))
    clear HO362
    clear HO367
    clear BK358
    clear BK359
    clear HB
    have HO362 := n0_
    have HO367 := n1_
    have BK358 := n2_
    have BK359 := n3_
    have HB := n4_
    have BK371 := n5_
    have GW371 := n6_
    have GE371 := n7_
    have NB358_371 := n8_
    have NB371_358 := n9_
    have NB359_371 := n10_
    have NB371_359 := n11_
    clear n0_ n1_ n2_ n3_ n4_ n5_ n6_ n7_ n8_ n9_ n10_ n11_
    clear hb hbox hg
    obtain ⟨Ao20, co20, eo20⟩ := Kd.R_slice HO367.out
    (first | subst eo20 | (injection eo20 with f1_ f2_ f3_; have f4_ := f1_.symm; have f5_ := f3_.symm; clear f1_ f2_ f3_; subst f4_; subst f5_))
    refine hK.out _ _ ⟨(blk_cell BK358.out 0).trans rfl, (blk_cell BK358.out 1).trans rfl⟩ (fun hHeld => ?_)
    clear hK K
    refine norm_ (a' := ?_) ?_ ?_
    rotate_left
    ·show Act.put _ (some 9) _ = _
     simp only [Act.put, List.setIfInBounds_toArray, List.set_cons_zero, List.set_cons_succ, i64_w, i32_w]
     rfl
    refine one_ (i := 3) (N := some 28) #[true, true, true, true, false, false, false, true, false, false] rfl rfl (one_of HT_.out (by kernel_rfl)) (by decide) (fun K hK => ?_)
    refine goes_ Try.func17 (by kernel_rfl) rfl #[.slice Ao20 t365.length co20, .agg #[.int .i64 a1_0, .int .i64 a1_1]] (by rfl) rfl rfl al_ ?_
    with_reducible refine (tags_Circle.calls k _ _ t365 a1_0 a1_1 t368 t369 t370 _ ?side1 ?side2 A7.out).mono ?_
    (case side1 => exact kc_ (Kd.R_reads' HO367.out).2.2)
    (case side2 => exact (Kd.R_reads' HO367.out).2.1)
    rintro e w21 ⟨rfl, hb⟩
    refine ⟨_, rfl, ?_⟩
    have n0_ := Aside0.mk (Kd.R_below (kr_ (HO362.out)) hb)
    have n1_ := Aside0.mk (Kd.R_below (kr_ (HO367.out)) hb)
    have n2_ := Aside0.mk (bkb_ BK358.out hb)
    have n3_ := Aside0.mk (bkb_ BK359.out hb)
    have n4_ := Aside0.mk (bkb_ BK371.out hb)
    have n5_ := Aside0.mk (below_step (hb_ HB.out) hb)
    clear HO362
    clear HO367
    clear BK358
    clear BK359
    clear BK371
    clear HB
    have HO362 := n0_
    have HO367 := n1_
    have BK358 := n2_
    have BK359 := n3_
    have BK371 := n4_
    have HB := n5_
    clear n0_ n1_ n2_ n3_ n4_ n5_
    (try clear hb)
    (try clear hb2)
    (try clear hk)
    (try clear hi)
    refine hK.out _ _ ⟨(blk_cell BK358.out 0).trans rfl, (blk_cell BK358.out 1).trans rfl⟩ (fun hHeld => ?_)
    clear hK K
    refine norm_ (a' := ?_) ?_ ?_
    rotate_left
    ·show Act.put _ (some 28) _ = _
     simp only [Act.put, List.setIfInBounds_toArray, List.set_cons_zero, List.set_cons_succ, i64_w, i32_w]
     rfl
    refine pure_ (i := 4) (N := some 24) (v := ?_) (a' := ?_) #[true, true, true, true, true, false, false, true, false, false] rfl rfl (any_of HT_.out (by kernel_rfl)) (fun _ _ _ h => h) (Or.inl ⟨by rfl, ?_⟩) ?_ ?_
    rotate_left
    ·intro w'
     go_simp
     with_reducible rfl
    rotate_left
    ·simp only [Act.put, List.setIfInBounds_toArray, List.set_cons_zero, List.set_cons_succ, i64_w, i32_w]
     rfl
    refine pure_ (i := 5) (N := some 29) (v := ?_) (a' := ?_) #[true, true, true, true, true, true, false, true, false, false] rfl rfl (any_of HT_.out (by kernel_rfl)) (fun _ _ _ h => h) (Or.inl ⟨by rfl, ?_⟩) ?_ ?_
    rotate_left
    ·intro w'
     go_simp
     with_reducible rfl
    rotate_left
    ·simp only [Act.put, List.setIfInBounds_toArray, List.set_cons_zero, List.set_cons_succ, i64_w, i32_w]
     rfl
    refine pure_ (i := 6) (N := some 30) (v := ?_) (a' := ?_) #[true, true, true, true, true, true, true, true, false, false] rfl rfl (any_of HT_.out (by kernel_rfl)) (fun _ _ _ h => h) (Or.inl ⟨by rfl, ?_⟩) ?_ ?_
    rotate_left
    ·intro w'
     go_simp
     with_reducible rfl
    rotate_left
    ·simp only [Act.put, List.setIfInBounds_toArray, List.set_cons_zero, List.set_cons_succ, i64_w, i32_w]
     rfl
    exact norm_ (by simp only [putAll, Act.put, List.setIfInBounds_toArray, List.set_cons_zero, List.set_cons_succ]) (hCont (.slice Ao20 t365.length co20, gb371) _ ⟨hHeld, (by (with_reducible repeat (first | apply Kd.R_alloc | apply Kd.R_drewN | apply Kd.R_drew)); exact Kd.R_mono HO362.out (fun _ hk => hk.2)), (by (with_reducible repeat (first | apply Kd.R_alloc | apply Kd.R_drewN | apply Kd.R_drew)); exact Kd.R_mono HO367.out (fun _ hk => hk.2)), (bk_ BK358.out), (bk_ BK359.out), (bk_ BK371.out), GW371.out, GE371.out, NB358_371.out, NB371_358.out, NB359_371.out, NB371_359.out, (hb_ HB.out)⟩)
  ·skip
   refine box_step ?hg (N := 9) ?hd (cs := #[.int .i64 0, .int .i64 0]) (t := 23) ?hr ?_; (case hd => rfl); (case hg => rfl); (case hr => first | (go_simp; done) | (go_simp; rfl))
   intro gb371 hg w18 hbox hb
   have n0_ := Aside0.mk (Kd.R_below (kr_ (HO362.out)) hb)
   have n1_ := Aside0.mk (bkb_ BK358.out hb)
   have n2_ := Aside0.mk (bkb_ BK359.out hb)
   have n3_ := Aside0.mk (below_step (hb_ HB.out) hb)
   have n4_ := Aside0.mk (hbox)
   have n5_ := Aside0.mk ((by rw [hg]; exact (below_size (hb_ HB.out)) : w.heap.size ≤ gb371))
   have n6_ := Aside0.mk ((by rw [hg]; exact (below_size (hb_ HB.out)) : w.heap.size ≤ gb371))
   have n7_ := Aside0.mk ((by rw [hg]; exact Nat.ne_of_lt (bkl_ BK358.out) : gb358 ≠ gb371))
   have n8_ := Aside0.mk ((by rw [hg]; exact Nat.ne_of_gt (bkl_ BK358.out) : gb371 ≠ gb358))
   have n9_ := Aside0.mk ((by rw [hg]; exact Nat.ne_of_lt (bkl_ BK359.out) : gb359 ≠ gb371))
   have n10_ := Aside0.mk ((by rw [hg]; exact Nat.ne_of_gt (bkl_ BK359.out) : gb371 ≠ gb359))
   clear HO362
   clear BK358
   clear BK359
   clear HB
   have HO362 := n0_
   have BK358 := n1_
   have BK359 := n2_
   have HB := n3_
   have BK371 := n4_
   have GW371 := n5_
   have GE371 := n6_
   have NB358_371 := n7_
   have NB371_358 := n8_
   have NB359_371 := n9_
   have NB371_359 := n10_
   clear n0_ n1_ n2_ n3_ n4_ n5_ n6_ n7_ n8_ n9_ n10_
   clear hb hbox hg
   refine hK.out _ _ ⟨(blk_cell BK358.out 0).trans rfl, (blk_cell BK358.out 1).trans rfl⟩ (fun hHeld => ?_)
   clear hK K
   refine norm_ (a' := ?_) ?_ ?_
   rotate_left
   ·show Act.put _ (some 9) _ = _
    simp only [Act.put, List.setIfInBounds_toArray, List.set_cons_zero, List.set_cons_succ, i64_w, i32_w]
    rfl
   refine one_ (i := 1) (N := some 26) #[true, true, true, false, false, false, false, true, false, false] rfl rfl (one_of HT_.out (by kernel_rfl)) (by decide) (fun K hK => ?_)
   refine goes_ Try.func11 (by kernel_rfl) rfl #[.slice A0 l0.length c0] (by rfl) rfl rfl al_ ?_
   with_reducible refine (comfitlaw06_Of.calls k _ _ l0 t365 _ ?side1 ?side2 A6.out).mono ?_
   (case side1 => exact kc_ (Kd.C_below HR0.out HB.out))
   (case side2 => exact HC0.out)
   rintro e w19 ⟨v366, rfl, ho0, hb⟩
   refine ⟨_, rfl, ?_⟩
   have n0_ := Aside0.mk (Kd.R_elder' (kr_ (HO362.out)) (Kd.R_base ho0) hb)
   have n1_ := Aside0.mk (Kd.R_lower (Kd.R_new' ho0 (Kd.R_lt (kr_ (HO362.out)))) (below_size (hb_ HB.out)))
   have n2_ := Aside0.mk (bkb_ BK358.out hb)
   have n3_ := Aside0.mk (bkb_ BK359.out hb)
   have n4_ := Aside0.mk (bkb_ BK371.out hb)
   have n5_ := Aside0.mk (below_step (hb_ HB.out) hb)
   clear HO362
   clear BK358
   clear BK359
   clear BK371
   clear HB
   have HO362 := n0_
   have HO367 := n1_
   have BK358 := n2_
   have BK359 := n3_
   have BK371 := n4_
   have HB := n5_
   clear n0_ n1_ n2_ n3_ n4_ n5_
   (try clear hb)
   (try clear hb2)
   (try clear hk)
   (try clear hi)
   (try clear ho0)
   obtain ⟨Ao20, co20, eo20⟩ := Kd.R_slice HO367.out
   (first | subst eo20 | (injection eo20 with f1_ f2_ f3_; have f4_ := f1_.symm; have f5_ := f3_.symm; clear f1_ f2_ f3_; subst f4_; subst f5_))
   refine hK.out _ _ ⟨(blk_cell BK358.out 0).trans rfl, (blk_cell BK358.out 1).trans rfl⟩ (fun hHeld => ?_)
   clear hK K
   refine norm_ (a' := ?_) ?_ ?_
   rotate_left
   ·show Act.put _ (some 26) _ = _
    simp only [Act.put, List.setIfInBounds_toArray, List.set_cons_zero, List.set_cons_succ, i64_w, i32_w]
    rfl
   refine one_ (i := 3) (N := some 28) #[true, true, true, true, false, false, false, true, false, false] rfl rfl (one_of HT_.out (by kernel_rfl)) (by decide) (fun K hK => ?_)
   refine goes_ Try.func17 (by kernel_rfl) rfl #[.slice Ao20 t365.length co20, .agg #[.int .i64 a1_0, .int .i64 a1_1]] (by rfl) rfl rfl al_ ?_
   with_reducible refine (tags_Circle.calls k _ _ t365 a1_0 a1_1 t368 t369 t370 _ ?side1 ?side2 A7.out).mono ?_
   (case side1 => exact kc_ (Kd.R_reads' HO367.out).2.2)
   (case side2 => exact (Kd.R_reads' HO367.out).2.1)
   rintro e w21 ⟨rfl, hb⟩
   refine ⟨_, rfl, ?_⟩
   have n0_ := Aside0.mk (Kd.R_below (kr_ (HO362.out)) hb)
   have n1_ := Aside0.mk (Kd.R_below (kr_ (HO367.out)) hb)
   have n2_ := Aside0.mk (bkb_ BK358.out hb)
   have n3_ := Aside0.mk (bkb_ BK359.out hb)
   have n4_ := Aside0.mk (bkb_ BK371.out hb)
   have n5_ := Aside0.mk (below_step (hb_ HB.out) hb)
   clear HO362
   clear HO367
   clear BK358
   clear BK359
   clear BK371
   clear HB
   have HO362 := n0_
   have HO367 := n1_
   have BK358 := n2_
   have BK359 := n3_
   have BK371 := n4_
   have HB := n5_
   clear n0_ n1_ n2_ n3_ n4_ n5_
   (try clear hb)
   (try clear hb2)
   (try clear hk)
   (try clear hi)
   refine hK.out _ _ ⟨(blk_cell BK358.out 0).trans rfl, (blk_cell BK358.out 1).trans rfl⟩ (fun hHeld => ?_)
   clear hK K
   refine norm_ (a' := ?_) ?_ ?_
   rotate_left
   ·show Act.put _ (some 28) _ = _
    simp only [Act.put, List.setIfInBounds_toArray, List.set_cons_zero, List.set_cons_succ, i64_w, i32_w]
    rfl
   refine pure_ (i := 4) (N := some 24) (v := ?_) (a' := ?_) #[true, true, true, true, true, false, false, true, false, false] rfl rfl (any_of HT_.out (by kernel_rfl)) (fun _ _ _ h => h) (Or.inl ⟨by rfl, ?_⟩) ?_ ?_
   rotate_left
   ·intro w'
    go_simp
    with_reducible rfl
   rotate_left
   ·simp only [Act.put, List.setIfInBounds_toArray, List.set_cons_zero, List.set_cons_succ, i64_w, i32_w]
    rfl
   refine pure_ (i := 5) (N := some 29) (v := ?_) (a' := ?_) #[true, true, true, true, true, true, false, true, false, false] rfl rfl (any_of HT_.out (by kernel_rfl)) (fun _ _ _ h => h) (Or.inl ⟨by rfl, ?_⟩) ?_ ?_
   rotate_left
   ·intro w'
    go_simp
    with_reducible rfl
   rotate_left
   ·simp only [Act.put, List.setIfInBounds_toArray, List.set_cons_zero, List.set_cons_succ, i64_w, i32_w]
    rfl
   refine pure_ (i := 6) (N := some 30) (v := ?_) (a' := ?_) #[true, true, true, true, true, true, true, true, false, false] rfl rfl (any_of HT_.out (by kernel_rfl)) (fun _ _ _ h => h) (Or.inl ⟨by rfl, ?_⟩) ?_ ?_
   rotate_left
   ·intro w'
    go_simp
    with_reducible rfl
   rotate_left
   ·simp only [Act.put, List.setIfInBounds_toArray, List.set_cons_zero, List.set_cons_succ, i64_w, i32_w]
    rfl
   exact norm_ (by simp only [putAll, Act.put, List.setIfInBounds_toArray, List.set_cons_zero, List.set_cons_succ]) (hCont (.slice Ao20 t365.length co20, gb371) _ ⟨hHeld, (by (with_reducible repeat (first | apply Kd.R_alloc | apply Kd.R_drewN | apply Kd.R_drew)); exact Kd.R_mono HO362.out (fun _ hk => hk.2)), (by (with_reducible repeat (first | apply Kd.R_alloc | apply Kd.R_drewN | apply Kd.R_drew)); exact Kd.R_mono HO367.out (fun _ hk => hk.2)), (bk_ BK358.out), (bk_ BK359.out), (bk_ BK371.out), GW371.out, GE371.out, NB358_371.out, NB371_358.out, NB359_371.out, NB371_359.out, (hb_ HB.out)⟩)
 rintro ⟨v366, gb371⟩ w22 ⟨hS_, h0_, h1_, h2_, h3_, h4_, h5_, h6_, h7_, h8_, h9_, h10_, h11_⟩
 have n0_ : Aside0 (Kd.R k57 57 w22 w.heap.size (fun k_ => some k_ ≠ (v366 : Value).ownBlock) (.slice Ao15 t360.length co15) t360) := ⟨h0_⟩
 have n1_ : Aside0 (Kd.R k57 57 w22 w.heap.size (fun k_ => some k_ ≠ (.slice Ao15 t360.length co15 : Value).ownBlock) v366 t365) := ⟨h1_⟩
 have n2_ : Aside0 (w22.heap[gb358]? = some (.cells #[.int .i64 a1_0, .int .i64 a1_1] 23 (0, 0))) := ⟨h2_⟩
 have n3_ : Aside0 (w22.heap[gb359]? = some (.cells #[.int .i64 a2_0, .int .i64 a2_1] 23 (0, 0))) := ⟨h3_⟩
 have n4_ : Aside0 (w22.heap[gb371]? = some (.cells #[.int .i64 0, .int .i64 0] 23 (0, 0))) := ⟨h4_⟩
 have n5_ : Aside0 (w.heap.size ≤ gb371) := ⟨h5_⟩
 have n6_ : Aside0 (w.heap.size ≤ gb371) := ⟨h6_⟩
 have n7_ : Aside0 (gb358 ≠ gb371) := ⟨h7_⟩
 have n8_ : Aside0 (gb371 ≠ gb358) := ⟨h8_⟩
 have n9_ : Aside0 (gb359 ≠ gb371) := ⟨h9_⟩
 have n10_ : Aside0 (gb371 ≠ gb359) := ⟨h10_⟩
 have n11_ : Aside0 (Below w.heap.size w w22) := ⟨h11_⟩
 clear HO362
 clear BK358
 clear BK359
 clear HB
 clear h0_ h1_ h2_ h3_ h4_ h5_ h6_ h7_ h8_ h9_ h10_ h11_
 have HO362 := n0_
 have HO367 := n1_
 have BK358 := n2_
 have BK359 := n3_
 have BK371 := n4_
 have GW371 := n5_
 have GE371 := n6_
 have NB358_371 := n7_
 have NB371_358 := n8_
 have NB359_371 := n9_
 have NB371_359 := n10_
 have HB := n11_
 clear n0_ n1_ n2_ n3_ n4_ n5_ n6_ n7_ n8_ n9_ n10_ n11_
 have hHeld : w22.cell? ⟨gb358, 0, none⟩ = some (.int .i64 a1_0) ∧ w22.cell? ⟨gb358, 1, none⟩ = some (.int .i64 a1_1) := hS_
 refine norm_ (a' := ?_) ?_ ?_
 rotate_left
 ·simp only [putAll, Act.put, List.setIfInBounds_toArray, List.set_cons_zero, List.set_cons_succ]
  rfl
 refine one_ (i := 8) (N := none) #[true, true, true, true, true, true, true, true, true, false] rfl rfl (one_of HT_.out (by kernel_rfl)) (by decide) (fun K hK => ?_)
 have hs23 : w22.cell? ⟨gb371, 0, none⟩ = some (.int .i64 0) := (blk_cell BK371.out 0).trans rfl
 have hfs23 := blk_frozen BK371.out 0
 have hns23_0 := NB358_371.out
 have hns23_1 := NB359_371.out
 have hms23_0 := NB371_358.out
 have hms23_1 := NB371_359.out
 have hs24 : w22.cell? ⟨gb371, 1, none⟩ = some (.int .i64 0) := (blk_cell BK371.out 1).trans rfl
 have hfs24 := blk_frozen BK371.out 1
 have hns24_0 := NB358_371.out
 have hns24_1 := NB359_371.out
 have hms24_0 := NB371_358.out
 have hms24_1 := NB371_359.out
 refine skip_ (w1 := ?_) (by rfl) rfl ?_ ?_
 rotate_left
 ·go_simp
  rfl
 refine hK.out _ _ ⟨((cell_far (p := ⟨gb371, _, none⟩) NB358_371.out _).trans (((cell_far (p := ⟨gb371, _, none⟩) NB358_371.out _).trans (hHeld.1)))), ((cell_far (p := ⟨gb371, _, none⟩) NB358_371.out _).trans (((cell_far (p := ⟨gb371, _, none⟩) NB358_371.out _).trans (hHeld.2))))⟩ (fun hHeld => ?_)
 clear hK K
 refine pure_ (i := 9) (N := some 10) (v := ?_) (a' := ?_) #[true, true, true, true, true, true, true, true, true, true] rfl rfl (any_of HT_.out (by kernel_rfl)) (fun _ _ _ h => h) (Or.inl ⟨by rfl, ?_⟩) ?_ ?_
 rotate_left
 ·intro w'
  go_simp
  with_reducible rfl
 rotate_left
 ·simp only [Act.put, List.setIfInBounds_toArray, List.set_cons_zero, List.set_cons_succ, i64_w, i32_w]
  rfl
 refine done_ (done_of HT_.out (by kernel_rfl)) ?_
 try go_wp2
 have n0_ : Aside0 (Kd.R k57 57 ((w22.setCell ⟨gb371, 0, none⟩ (.int .i64 t368)).setCell ⟨gb371, 1, none⟩ (.int .i64 t369)) w.heap.size (fun k_ => some k_ ≠ (v366 : Value).ownBlock) (.slice Ao15 t360.length co15) t360) := ⟨by (with_reducible repeat (first | apply Kd.R_alloc | apply Kd.R_drewN | apply Kd.R_drew)); exact Kd.R_mono (Kd.R_far (p := ⟨gb371, 1, none⟩) (Kd.R_far (p := ⟨gb371, 0, none⟩) (Kd.R_types HO362.out BK371.out (by decide)) (fun _ hk => hk.2) (.int .i64 t368)) (fun _ hk => hk.2) (.int .i64 t369)) (fun _ hk => hk.1)⟩
 have n1_ : Aside0 (Kd.R k57 57 ((w22.setCell ⟨gb371, 0, none⟩ (.int .i64 t368)).setCell ⟨gb371, 1, none⟩ (.int .i64 t369)) w.heap.size (fun k_ => some k_ ≠ (.slice Ao15 t360.length co15 : Value).ownBlock) v366 t365) := ⟨by (with_reducible repeat (first | apply Kd.R_alloc | apply Kd.R_drewN | apply Kd.R_drew)); exact Kd.R_mono (Kd.R_far (p := ⟨gb371, 1, none⟩) (Kd.R_far (p := ⟨gb371, 0, none⟩) (Kd.R_types HO367.out BK371.out (by decide)) (fun _ hk => hk.2) (.int .i64 t368)) (fun _ hk => hk.2) (.int .i64 t369)) (fun _ hk => hk.1)⟩
 have n2_ : Aside0 (((w22.setCell ⟨gb371, 0, none⟩ (.int .i64 t368)).setCell ⟨gb371, 1, none⟩ (.int .i64 t369)).heap[gb358]? = some (.cells #[.int .i64 a1_0, .int .i64 a1_1] 23 (0, 0))) := ⟨by (with_reducible repeat (first | refine blk_drewN ?_ _ | refine blk_drew ?_ | refine blk_alloc ?_ _)); refine blk_far ?_ NB358_371.out _; (with_reducible repeat (first | refine blk_drewN ?_ _ | refine blk_drew ?_ | refine blk_alloc ?_ _)); refine blk_far ?_ NB358_371.out _; (with_reducible repeat (first | refine blk_drewN ?_ _ | refine blk_drew ?_ | refine blk_alloc ?_ _)); exact BK358.out⟩
 have n3_ : Aside0 (((w22.setCell ⟨gb371, 0, none⟩ (.int .i64 t368)).setCell ⟨gb371, 1, none⟩ (.int .i64 t369)).heap[gb359]? = some (.cells #[.int .i64 a2_0, .int .i64 a2_1] 23 (0, 0))) := ⟨by (with_reducible repeat (first | refine blk_drewN ?_ _ | refine blk_drew ?_ | refine blk_alloc ?_ _)); refine blk_far ?_ NB359_371.out _; (with_reducible repeat (first | refine blk_drewN ?_ _ | refine blk_drew ?_ | refine blk_alloc ?_ _)); refine blk_far ?_ NB359_371.out _; (with_reducible repeat (first | refine blk_drewN ?_ _ | refine blk_drew ?_ | refine blk_alloc ?_ _)); exact BK359.out⟩
 have n4_ : Aside0 (((w22.setCell ⟨gb371, 0, none⟩ (.int .i64 t368)).setCell ⟨gb371, 1, none⟩ (.int .i64 t369)).heap[gb371]? = some (.cells #[.int .i64 t368, .int .i64 t369] 23 (0, 0))) := ⟨by (with_reducible repeat (first | refine blk_drewN ?_ _ | refine blk_drew ?_ | refine blk_alloc ?_ _)); refine blk_put (cs := #[.int .i64 t368, .int .i64 0]) ?_ 1 _ rfl; (with_reducible repeat (first | refine blk_drewN ?_ _ | refine blk_drew ?_ | refine blk_alloc ?_ _)); refine blk_put (cs := #[.int .i64 0, .int .i64 0]) ?_ 0 _ rfl; (with_reducible repeat (first | refine blk_drewN ?_ _ | refine blk_drew ?_ | refine blk_alloc ?_ _)); exact BK371.out⟩
 have n5_ : Aside0 (Below w.heap.size w ((w22.setCell ⟨gb371, 0, none⟩ (.int .i64 t368)).setCell ⟨gb371, 1, none⟩ (.int .i64 t369))) := ⟨by repeat (first | (with_reducible first | exact HB.out | apply below_alloc | apply pw_below_drewN | apply below_drew1 | refine below_set ?_ GE358.out | refine below_set ?_ GE359.out | refine below_set ?_ GE371.out) | exact HB.out)⟩
 (try clear HO362)
 (try clear HO367)
 (try clear BK358)
 (try clear BK359)
 (try clear BK371)
 (try clear HB)
 generalize ((w22.setCell ⟨gb371, 0, none⟩ (.int .i64 t368)).setCell ⟨gb371, 1, none⟩ (.int .i64 t369)) = w25 at n0_ n1_ n2_ n3_ n4_ n5_ ⊢
 have HO362 := n0_
 have HO367 := n1_
 have BK358 := n2_
 have BK359 := n3_
 have BK371 := n4_
 have HB := n5_
 clear n0_ n1_ n2_ n3_ n4_ n5_
 have n0_ := Aside0.mk (Kd.R_drew HO362.out)
 have n1_ := Aside0.mk (Kd.R_drew HO367.out)
 have n2_ := Aside0.mk (blk_drew BK358.out)
 have n3_ := Aside0.mk (blk_drew BK359.out)
 have n4_ := Aside0.mk (blk_drew BK371.out)
 have n5_ := Aside0.mk (below_drew1 HB.out)
 clear HO362
 clear HO367
 clear BK358
 clear BK359
 clear BK371
 clear HB
 have HO362 := n0_
 have HO367 := n1_
 have BK358 := n2_
 have BK359 := n3_
 have BK371 := n4_
 have HB := n5_
 clear n0_ n1_ n2_ n3_ n4_ n5_
 refine start_ (n := 10) (S := fun w' => w'.cell? ⟨gb358, 0, none⟩ = some (.int .i64 a1_0) ∧ w'.cell? ⟨gb358, 1, none⟩ = some (.int .i64 a1_1) ∧ w'.cell? ⟨gb359, 0, none⟩ = some (.int .i64 a2_0) ∧ w'.cell? ⟨gb359, 1, none⟩ = some (.int .i64 a2_1)) (ds := []) #[false, false, false, false, false, false, false, false, false, false] (by kernel_rfl) rfl rfl ⟨(blk_cell BK358.out 0).trans rfl, (blk_cell BK358.out 1).trans rfl, (blk_cell BK359.out 0).trans rfl, (blk_cell BK359.out 1).trans rfl⟩ (fun hHeld => ?_); refine with_tabW comfitlaw06_TagsEnds.tab3 comfitlaw06_TagsEnds.bits3 (fun HT_ HW_ => ?_)
 generalize w25.drew = w26 at HO362 HO367 BK358 BK359 BK371 HB hHeld ⊢
 refine pure_ (i := 0) (N := some 32) (v := ?_) (a' := ?_) #[true, false, false, false, false, false, false, false, false, false] rfl rfl (any_of HT_.out (by kernel_rfl)) (fun _ _ _ h => h) (Or.inl ⟨by rfl, ?_⟩) ?_ ?_
 rotate_left
 ·intro w'
  go_simp
  with_reducible rfl
 rotate_left
 ·simp only [Act.put, List.setIfInBounds_toArray, List.set_cons_zero, List.set_cons_succ, i64_w, i32_w]
  rfl
 refine take_ (i := 2) (N := some 34) (v := ?_) (a' := ?_) #[true, false, true, false, false, false, false, false, false, false] rfl rfl (take_ofW HT_.out HW_.out (by kernel_rfl)) (fun _ _ _ h => h) (Or.inl ⟨by rfl, ?_⟩) hHeld ?_ ?_
 rotate_left
 ·rintro w' ⟨s0, s1, s2, s3⟩
  go_simp
  with_reducible rfl
 rotate_left
 ·simp only [Act.put, List.setIfInBounds_toArray, List.set_cons_zero, List.set_cons_succ, i64_w, i32_w]
  rfl
 refine take_ (i := 3) (N := some 35) (v := ?_) (a' := ?_) #[true, false, true, true, false, false, false, false, false, false] rfl rfl (take_ofW HT_.out HW_.out (by kernel_rfl)) (fun _ _ _ h => h) (Or.inl ⟨by rfl, ?_⟩) hHeld ?_ ?_
 rotate_left
 ·rintro w' ⟨s0, s1, s2, s3⟩
  go_simp
  with_reducible rfl
 rotate_left
 ·simp only [Act.put, List.setIfInBounds_toArray, List.set_cons_zero, List.set_cons_succ, i64_w, i32_w]
  rfl
 refine one_ (i := 1) (N := some 33) #[true, true, true, true, false, false, false, false, false, false] rfl rfl (one_of HT_.out (by kernel_rfl)) (by decide) (fun K hK => ?_)
 refine goes_ Try.func11 (by kernel_rfl) rfl #[.slice A0 l0.length c0] (by rfl) rfl rfl al_ ?_
 with_reducible refine (comfitlaw06_Of.calls k _ _ l0 t372 _ ?side1 ?side2 A8.out).mono ?_
 (case side1 => exact kc_ (Kd.C_below HR0.out HB.out))
 (case side2 => exact HC0.out)
 rintro e w27 ⟨v373, rfl, ho0, hb⟩
 refine ⟨_, rfl, ?_⟩
 have n0_ := Aside0.mk (Kd.R_elder' (kr_ (HO362.out)) (Kd.R_base ho0) hb)
 have n1_ := Aside0.mk (Kd.R_elder' (kr_ (HO367.out)) (Kd.R_base ho0) hb)
 have n2_ := Aside0.mk (Kd.R_lower (Kd.R_new' (Kd.R_new' ho0 (Kd.R_lt (kr_ (HO362.out)))) (Kd.R_lt (kr_ (HO367.out)))) (below_size (hb_ HB.out)))
 have n3_ := Aside0.mk (bkb_ BK358.out hb)
 have n4_ := Aside0.mk (bkb_ BK359.out hb)
 have n5_ := Aside0.mk (bkb_ BK371.out hb)
 have n6_ := Aside0.mk (below_step (hb_ HB.out) hb)
 clear HO362
 clear HO367
 clear BK358
 clear BK359
 clear BK371
 clear HB
 have HO362 := n0_
 have HO367 := n1_
 have HO374 := n2_
 have BK358 := n3_
 have BK359 := n4_
 have BK371 := n5_
 have HB := n6_
 clear n0_ n1_ n2_ n3_ n4_ n5_ n6_
 (try clear hb)
 (try clear hb2)
 (try clear hk)
 (try clear hi)
 (try clear ho0)
 obtain ⟨Ao28, co28, eo28⟩ := Kd.R_slice HO374.out
 (first | subst eo28 | (injection eo28 with f1_ f2_ f3_; have f4_ := f1_.symm; have f5_ := f3_.symm; clear f1_ f2_ f3_; subst f4_; subst f5_))
 refine hK.out _ _ ⟨(blk_cell BK358.out 0).trans rfl, (blk_cell BK358.out 1).trans rfl, (blk_cell BK359.out 0).trans rfl, (blk_cell BK359.out 1).trans rfl⟩ (fun hHeld => ?_)
 clear hK K
 refine norm_ (a' := ?_) ?_ ?_
 rotate_left
 ·show Act.put _ (some 33) _ = _
  simp only [Act.put, List.setIfInBounds_toArray, List.set_cons_zero, List.set_cons_succ, i64_w, i32_w]
  rfl
 refine one_ (i := 4) (N := some 36) #[true, true, true, true, true, false, false, false, false, false] rfl rfl (one_of HT_.out (by kernel_rfl)) (by decide) (fun K hK => ?_)
 refine goes_ Try.func18 (by kernel_rfl) rfl #[.slice Ao28 t372.length co28, .agg #[.int .i64 a1_0, .int .i64 a1_1], .agg #[.int .i64 a2_0, .int .i64 a2_1]] (by rfl) rfl rfl al_ ?_
 with_reducible refine (tags_CheckCircle.calls k _ _ t372 a1_0 a1_1 a2_0 a2_1 t375 t376 _ ?side1 ?side2 A9.out).mono ?_
 (case side1 => exact kc_ (Kd.R_reads' HO374.out).2.2)
 (case side2 => exact (Kd.R_reads' HO374.out).2.1)
 rintro e w29 ⟨rfl, hb⟩
 refine ⟨_, rfl, ?_⟩
 have n0_ := Aside0.mk (Kd.R_below (kr_ (HO362.out)) hb)
 have n1_ := Aside0.mk (Kd.R_below (kr_ (HO367.out)) hb)
 have n2_ := Aside0.mk (Kd.R_below (kr_ (HO374.out)) hb)
 have n3_ := Aside0.mk (bkb_ BK358.out hb)
 have n4_ := Aside0.mk (bkb_ BK359.out hb)
 have n5_ := Aside0.mk (bkb_ BK371.out hb)
 have n6_ := Aside0.mk (below_step (hb_ HB.out) hb)
 clear HO362
 clear HO367
 clear HO374
 clear BK358
 clear BK359
 clear BK371
 clear HB
 have HO362 := n0_
 have HO367 := n1_
 have HO374 := n2_
 have BK358 := n3_
 have BK359 := n4_
 have BK371 := n5_
 have HB := n6_
 clear n0_ n1_ n2_ n3_ n4_ n5_ n6_
 (try clear hb)
 (try clear hb2)
 (try clear hk)
 (try clear hi)
 refine hK.out _ _ ⟨(blk_cell BK358.out 0).trans rfl, (blk_cell BK358.out 1).trans rfl, (blk_cell BK359.out 0).trans rfl, (blk_cell BK359.out 1).trans rfl⟩ (fun hHeld => ?_)
 clear hK K
 refine norm_ (a' := ?_) ?_ ?_
 rotate_left
 ·show Act.put _ (some 36) _ = _
  simp only [Act.put, List.setIfInBounds_toArray, List.set_cons_zero, List.set_cons_succ, i64_w, i32_w]
  rfl
 refine pure_ (i := 5) (N := some 31) (v := ?_) (a' := ?_) #[true, true, true, true, true, true, false, false, false, false] rfl rfl (any_of HT_.out (by kernel_rfl)) (fun _ _ _ h => h) (Or.inl ⟨by rfl, ?_⟩) ?_ ?_
 rotate_left
 ·intro w'
  go_simp
  with_reducible rfl
 rotate_left
 ·simp only [Act.put, List.setIfInBounds_toArray, List.set_cons_zero, List.set_cons_succ, i64_w, i32_w]
  rfl
 refine pure_ (i := 6) (N := some 37) (v := ?_) (a' := ?_) #[true, true, true, true, true, true, true, false, false, false] rfl rfl (any_of HT_.out (by kernel_rfl)) (fun _ _ _ h => h) (Or.inl ⟨by rfl, ?_⟩) ?_ ?_
 rotate_left
 ·intro w'
  go_simp
  with_reducible rfl
 rotate_left
 ·simp only [Act.put, List.setIfInBounds_toArray, List.set_cons_zero, List.set_cons_succ, i64_w, i32_w]
  rfl
 refine pure_ (i := 7) (N := some 38) (v := ?_) (a' := ?_) #[true, true, true, true, true, true, true, true, false, false] rfl rfl (any_of HT_.out (by kernel_rfl)) (fun _ _ _ h => h) (Or.inl ⟨by rfl, ?_⟩) ?_ ?_
 rotate_left
 ·intro w'
  go_simp
  with_reducible rfl
 rotate_left
 ·simp only [Act.put, List.setIfInBounds_toArray, List.set_cons_zero, List.set_cons_succ, i64_w, i32_w]
  rfl
 refine pure_ (i := 8) (N := some 11) (v := ?_) (a' := ?_) #[true, true, true, true, true, true, true, true, true, false] rfl rfl (any_of HT_.out (by kernel_rfl)) (fun _ _ _ h => h) (Or.inl ⟨by rfl, ?_⟩) ?_ ?_
 rotate_left
 ·intro w'
  go_simp
  with_reducible rfl
 rotate_left
 ·simp only [Act.put, List.setIfInBounds_toArray, List.set_cons_zero, List.set_cons_succ, i64_w, i32_w]
  rfl
 refine pure_ (i := 9) (N := some 12) (v := ?_) (a' := ?_) #[true, true, true, true, true, true, true, true, true, true] rfl rfl (any_of HT_.out (by kernel_rfl)) (fun _ _ _ h => h) (Or.inl ⟨by rfl, ?_⟩) ?_ ?_
 rotate_left
 ·intro w'
  go_simp
  with_reducible rfl
 rotate_left
 ·simp only [Act.put, List.setIfInBounds_toArray, List.set_cons_zero, List.set_cons_succ, i64_w, i32_w]
  rfl
 refine done_ (done_of HT_.out (by kernel_rfl)) ?_
 go_upto_region 4 with (fail)
 go_cut [46] (fun v46 wc => ∃ (kq : Nat) (x46_9 : Bool), v46 = .bool x46_9 ∧ Aside0 (comfitlaw06_TagsEnds.j0 kq l0 t363 t364 t370 t375 t376 x46_9 a1_0 a1_1 a2_0 a2_1 t368 t369 = some r) ∧ Aside0 (kq ≤ k) ∧ Aside0 (wc.heap[gb358]? = some (.cells #[.int .i64 a1_0, .int .i64 a1_1] 23 (0, 0))) ∧ Aside0 (wc.heap[gb359]? = some (.cells #[.int .i64 a2_0, .int .i64 a2_1] 23 (0, 0))) ∧ Aside0 (wc.heap[gb371]? = some (.cells #[.int .i64 t368, .int .i64 t369] 23 (0, 0))) ∧ Aside0 (Below w.heap.size w wc))
 case first =>
  have H := HC10.out
  clear HC10
  replace H := Option.bind_eq_some_iff.mp H
  obtain ⟨t377, A300, H⟩ := H
  replace H : (if t377 = true then ((comfitref06_Jars.f a1_0 a1_1).bind fun t378 => (comfitlaw06_TagsEnds.j0 k l0 t363 t364 t370 t375 t376 (!t378) a1_0 a1_1 a2_0 a2_1 t368 t369)) else (comfitlaw06_TagsEnds.j0 k l0 t363 t364 t370 t375 t376 true a1_0 a1_1 a2_0 a2_1 t368 t369)) = some r := H
  have A30 := Aside0.mk A300
  clear A300
  by_cases c31 : t377 = true
  ·subst c31
   have H1 : ((comfitref06_Jars.f a1_0 a1_1).bind fun t378 => (comfitlaw06_TagsEnds.j0 k l0 t363 t364 t370 t375 t376 (!t378) a1_0 a1_1 a2_0 a2_1 t368 t369)) = some r := by rw [if_pos rfl] at H; exact H
   clear H
   have H := H1
   clear H1
   replace H := Option.bind_eq_some_iff.mp H
   obtain ⟨t378, A320, H⟩ := H
   replace H : (comfitlaw06_TagsEnds.j0 k l0 t363 t364 t370 t375 t376 (!t378) a1_0 a1_1 a2_0 a2_1 t368 t369) = some r := H
   have A32 := Aside0.mk A320
   clear A320
   have H' := Aside0.mk H
   clear H
   go_wp2_with (first | ((with_reducible refine gate_callee (f := 12) rfl ?_); refine goesL_ (some 40) rfl rfl Try.func12 (by kernel_rfl) rfl #[.slice A0 l0.length c0] rfl al_ ?_; (with_reducible refine (comfitref06_Machine.calls k _ _ l0 true _ ?side1 ?side2 A30.out).mono ?_); (case side1 => exact kc_ (Kd.C_below HR0.out HB.out)); (case side2 => exact HC0.out); rintro e w33 ⟨rfl, hb⟩; refine ⟨_, rfl, ?_⟩; have n0_ := Aside0.mk (Kd.R_below (kr_ (HO362.out)) hb); have n1_ := Aside0.mk (Kd.R_below (kr_ (HO367.out)) hb); have n2_ := Aside0.mk (Kd.R_below (kr_ (HO374.out)) hb); have n3_ := Aside0.mk (bkb_ BK358.out hb); have n4_ := Aside0.mk (bkb_ BK359.out hb); have n5_ := Aside0.mk (bkb_ BK371.out hb); have n6_ := Aside0.mk (below_step (hb_ HB.out) hb); clear HO362; clear HO367; clear HO374; clear BK358; clear BK359; clear BK371; clear HB; have HO362 := n0_; have HO367 := n1_; have HO374 := n2_; have BK358 := n3_; have BK359 := n4_; have BK371 := n5_; have HB := n6_; clear n0_ n1_ n2_ n3_ n4_ n5_ n6_; (try clear hb); (try clear hb2); (try clear hk); (try clear hi); have hnb34 := NB358_359.out; have hnc34 := NB359_358.out; have hnb35 := NB358_371.out; have hnc35 := NB371_358.out; have hcz36_0 : w33.cell? ⟨gb358, 0, none⟩ = some (.int .i64 a1_0) := (blk_cell BK358.out 0).trans rfl; have hcz36_1 : w33.cell? ⟨gb358, 1, none⟩ = some (.int .i64 a1_1) := (blk_cell BK358.out 1).trans rfl; have hfz36_0 := blk_frozen BK358.out 0; have hfz36_1 := blk_frozen BK358.out 1) | (go_at_call 13; (with_reducible refine (comfitref06_Jars.calls a1_0 a1_1 t378 _ A32.out).mono ?_); rintro e w37 ⟨rfl, hb⟩; have n0_ := Aside0.mk (Kd.R_below (kr_ (HO362.out)) hb); have n1_ := Aside0.mk (Kd.R_below (kr_ (HO367.out)) hb); have n2_ := Aside0.mk (Kd.R_below (kr_ (HO374.out)) hb); have n3_ := Aside0.mk (bkb_ BK358.out hb); have n4_ := Aside0.mk (bkb_ BK359.out hb); have n5_ := Aside0.mk (bkb_ BK371.out hb); have n6_ := Aside0.mk (below_step (hb_ HB.out) hb); clear HO362; clear HO367; clear HO374; clear BK358; clear BK359; clear BK371; clear HB; have HO362 := n0_; have HO367 := n1_; have HO374 := n2_; have BK358 := n3_; have BK359 := n4_; have BK371 := n5_; have HB := n6_; clear n0_ n1_ n2_ n3_ n4_ n5_ n6_; (try clear hb); (try clear hb2); (try clear hk); (try clear hi)))
   go_meet
   case rel => exact ⟨_, (!t378), (by first | rfl | (simp; done) | (simp [*]; done)), H', ⟨by first | omega | exact Nat.le_refl _⟩, ⟨by (with_reducible repeat (first | refine blk_drewN ?_ _ | refine blk_drew ?_ | refine blk_alloc ?_ _)); exact BK358.out⟩, ⟨by (with_reducible repeat (first | refine blk_drewN ?_ _ | refine blk_drew ?_ | refine blk_alloc ?_ _)); exact BK359.out⟩, ⟨by (with_reducible repeat (first | refine blk_drewN ?_ _ | refine blk_drew ?_ | refine blk_alloc ?_ _)); exact BK371.out⟩, ⟨by repeat (first | (with_reducible first | exact HB.out | apply below_alloc | apply pw_below_drewN | apply below_drew1 | refine below_set ?_ GE358.out | refine below_set ?_ GE359.out | refine below_set ?_ GE371.out) | exact HB.out)⟩⟩
  ·replace c31 := Bool.eq_false_iff.mpr c31
   subst c31
   have H1 : (comfitlaw06_TagsEnds.j0 k l0 t363 t364 t370 t375 t376 true a1_0 a1_1 a2_0 a2_1 t368 t369) = some r := by rw [if_neg (show ¬ (false = true) by decide)] at H; exact H
   clear H
   have H := H1
   clear H1
   have H' := Aside0.mk H
   clear H
   go_wp2_with (first | ((with_reducible refine gate_callee (f := 12) rfl ?_); refine goesL_ (some 40) rfl rfl Try.func12 (by kernel_rfl) rfl #[.slice A0 l0.length c0] rfl al_ ?_; (with_reducible refine (comfitref06_Machine.calls k _ _ l0 false _ ?side1 ?side2 A30.out).mono ?_); (case side1 => exact kc_ (Kd.C_below HR0.out HB.out)); (case side2 => exact HC0.out); rintro e w38 ⟨rfl, hb⟩; refine ⟨_, rfl, ?_⟩; have n0_ := Aside0.mk (Kd.R_below (kr_ (HO362.out)) hb); have n1_ := Aside0.mk (Kd.R_below (kr_ (HO367.out)) hb); have n2_ := Aside0.mk (Kd.R_below (kr_ (HO374.out)) hb); have n3_ := Aside0.mk (bkb_ BK358.out hb); have n4_ := Aside0.mk (bkb_ BK359.out hb); have n5_ := Aside0.mk (bkb_ BK371.out hb); have n6_ := Aside0.mk (below_step (hb_ HB.out) hb); clear HO362; clear HO367; clear HO374; clear BK358; clear BK359; clear BK371; clear HB; have HO362 := n0_; have HO367 := n1_; have HO374 := n2_; have BK358 := n3_; have BK359 := n4_; have BK371 := n5_; have HB := n6_; clear n0_ n1_ n2_ n3_ n4_ n5_ n6_; (try clear hb); (try clear hb2); (try clear hk); (try clear hi)))
   go_meet
   case rel => exact ⟨_, (true), (by first | rfl | (simp; done) | (simp [*]; done)), H', ⟨by first | omega | exact Nat.le_refl _⟩, ⟨by (with_reducible repeat (first | refine blk_drewN ?_ _ | refine blk_drew ?_ | refine blk_alloc ?_ _)); exact BK358.out⟩, ⟨by (with_reducible repeat (first | refine blk_drewN ?_ _ | refine blk_drew ?_ | refine blk_alloc ?_ _)); exact BK359.out⟩, ⟨by (with_reducible repeat (first | refine blk_drewN ?_ _ | refine blk_drew ?_ | refine blk_alloc ?_ _)); exact BK371.out⟩, ⟨by repeat (first | (with_reducible first | exact HB.out | apply below_alloc | apply pw_below_drewN | apply below_drew1 | refine below_set ?_ GE358.out | refine below_set ?_ GE359.out | refine below_set ?_ GE371.out) | exact HB.out)⟩⟩
 case rest =>
  clear HC10
  try clear c1
  try clear p2
  try clear c3
  try clear c11
  try clear c12
  try clear c17
  try clear c18
  try clear c31
  try clear c34
  try clear c35
  try clear hcz36_0
  try clear hcz36_1
  try clear hfz36_0
  try clear hfz36_1
  obtain ⟨kq, x46_9, rfl, HA, HJ9, BK358, BK359, BK371, HB⟩ := hcut
  cases kq with
  | zero => exact absurd HA.out (by simp [comfitlaw06_TagsEnds.j0])
  | succ kj9 =>
   have H := HA.out
   clear HA
   simp only [comfitlaw06_TagsEnds.j0] at H
   by_cases c39 : x46_9 = true
   ·subst c39
    have H1 : (if t363 = 0 then (if (t368 == 0 && (t369 == 0)) = true then (if t375 = true then (some false) else (if t364 = 2 then (if t370 = 2 then (if t376 = 2 then ((comfitlaw06_awake.f kj9).bind fun t379 => (some t379)) else (some false)) else (some false)) else (some false))) else (some false)) else (some false)) = some r := by rw [if_pos rfl] at H; exact H
    clear H
    have H := H1
    clear H1
    by_cases c40 : t363 = 0
    ·rw [if_pos c40] at H
     have c40b0 : (t363 == 0) = true := beq_iff_eq.mpr c40
     have c40b1 : (t363 != 0) = false := bne_eq_false_iff_eq.mpr c40
     clear c40
     by_cases c41 : (t368 == 0 && (t369 == 0)) = true
     ·rw [if_pos c41] at H
      have c41b0 : (t368 == 0 && (t369 == 0)) = true := c41
      (try (have c41b1 : decide (t368 = 0 && (t369 == 0)) = true := by simpa using c41))
      (try (have c41b2 : (t368 == 0 && (t369 == 0)) = true := by simpa using c41))
      clear c41
      by_cases c42 : t375 = true
      ·subst c42
       have H1 : (some false) = some r := by rw [if_pos rfl] at H; exact H
       clear H
       have H := H1
       clear H1
       obtain rfl := Option.some.inj H
       have hnb43 := NB371_358.out
       have hnc43 := NB358_371.out
       have hnb44 := NB371_359.out
       have hnc44 := NB359_371.out
       have hcz45_0 : wc.cell? ⟨gb371, 0, none⟩ = some (.int .i64 t368) := (blk_cell BK371.out 0).trans rfl
       have hcz45_1 : wc.cell? ⟨gb371, 1, none⟩ = some (.int .i64 t369) := (blk_cell BK371.out 1).trans rfl
       have hfz45_0 := blk_frozen BK371.out 0
       have hfz45_1 := blk_frozen BK371.out 1
       go_wp2
       go_ret
       exact ⟨by first | rfl | (simp [errW_none, errW_some] <;> rfl) | (simp [*, errW_none, errW_some] <;> rfl), by repeat (first | (with_reducible first | exact HB.out | apply below_alloc | apply pw_below_drewN | apply below_drew1 | refine below_set ?_ GE358.out | refine below_set ?_ GE359.out | refine below_set ?_ GE371.out) | exact HB.out)⟩
      ·replace c42 := Bool.eq_false_iff.mpr c42
       subst c42
       have H1 : (if t364 = 2 then (if t370 = 2 then (if t376 = 2 then ((comfitlaw06_awake.f kj9).bind fun t379 => (some t379)) else (some false)) else (some false)) else (some false)) = some r := by rw [if_neg (show ¬ (false = true) by decide)] at H; exact H
       clear H
       have H := H1
       clear H1
       by_cases c46 : t364 = 2
       ·rw [if_pos c46] at H
        have c46b0 : (t364 == 2) = true := beq_iff_eq.mpr c46
        have c46b1 : (t364 != 2) = false := bne_eq_false_iff_eq.mpr c46
        clear c46
        by_cases c47 : t370 = 2
        ·rw [if_pos c47] at H
         have c47b0 : (t370 == 2) = true := beq_iff_eq.mpr c47
         have c47b1 : (t370 != 2) = false := bne_eq_false_iff_eq.mpr c47
         clear c47
         by_cases c48 : t376 = 2
         ·rw [if_pos c48] at H
          have c48b0 : (t376 == 2) = true := beq_iff_eq.mpr c48
          have c48b1 : (t376 != 2) = false := bne_eq_false_iff_eq.mpr c48
          clear c48
          replace H := Option.bind_eq_some_iff.mp H
          obtain ⟨t379, A490, H⟩ := H
          replace H : (some t379) = some r := H
          have A49 := Aside0.mk A490
          clear A490
          obtain rfl := Option.some.inj H
          have hnb50 := NB371_358.out
          have hnc50 := NB358_371.out
          have hnb51 := NB371_359.out
          have hnc51 := NB359_371.out
          have hcz52_0 : wc.cell? ⟨gb371, 0, none⟩ = some (.int .i64 t368) := (blk_cell BK371.out 0).trans rfl
          have hcz52_1 : wc.cell? ⟨gb371, 1, none⟩ = some (.int .i64 t369) := (blk_cell BK371.out 1).trans rfl
          have hfz52_0 := blk_frozen BK371.out 0
          have hfz52_1 := blk_frozen BK371.out 1
          go_wp2_with (first | (go_at_call 14; (with_reducible refine (comfitlaw06_awake.calls kj9  t379 _ A49.out).mono ?_); rintro e w53 ⟨rfl, hb⟩; have n0_ := Aside0.mk (bkb_ BK358.out hb); have n1_ := Aside0.mk (bkb_ BK359.out hb); have n2_ := Aside0.mk (bkb_ BK371.out hb); have n3_ := Aside0.mk (below_step (hb_ HB.out) hb); clear BK358; clear BK359; clear BK371; clear HB; have BK358 := n0_; have BK359 := n1_; have BK371 := n2_; have HB := n3_; clear n0_ n1_ n2_ n3_; (try clear hb); (try clear hb2); (try clear hk); (try clear hi)))
          go_ret
          exact ⟨by first | rfl | (simp [errW_none, errW_some] <;> rfl) | (simp [*, errW_none, errW_some] <;> rfl), by repeat (first | (with_reducible first | exact HB.out | apply below_alloc | apply pw_below_drewN | apply below_drew1 | refine below_set ?_ GE358.out | refine below_set ?_ GE359.out | refine below_set ?_ GE371.out) | exact HB.out)⟩
         ·rw [if_neg c48] at H
          have c48b0 : (t376 == 2) = false := beq_eq_false_iff_ne.mpr c48
          have c48b1 : (t376 != 2) = true := bne_iff_ne.mpr c48
          obtain rfl := Option.some.inj H
          have hnb54 := NB371_358.out
          have hnc54 := NB358_371.out
          have hnb55 := NB371_359.out
          have hnc55 := NB359_371.out
          have hcz56_0 : wc.cell? ⟨gb371, 0, none⟩ = some (.int .i64 t368) := (blk_cell BK371.out 0).trans rfl
          have hcz56_1 : wc.cell? ⟨gb371, 1, none⟩ = some (.int .i64 t369) := (blk_cell BK371.out 1).trans rfl
          have hfz56_0 := blk_frozen BK371.out 0
          have hfz56_1 := blk_frozen BK371.out 1
          go_wp2
          go_ret
          exact ⟨by first | rfl | (simp [errW_none, errW_some] <;> rfl) | (simp [*, errW_none, errW_some] <;> rfl), by repeat (first | (with_reducible first | exact HB.out | apply below_alloc | apply pw_below_drewN | apply below_drew1 | refine below_set ?_ GE358.out | refine below_set ?_ GE359.out | refine below_set ?_ GE371.out) | exact HB.out)⟩
        ·rw [if_neg c47] at H
         have c47b0 : (t370 == 2) = false := beq_eq_false_iff_ne.mpr c47
         have c47b1 : (t370 != 2) = true := bne_iff_ne.mpr c47
         obtain rfl := Option.some.inj H
         have hnb57 := NB371_358.out
         have hnc57 := NB358_371.out
         have hnb58 := NB371_359.out
         have hnc58 := NB359_371.out
         have hcz59_0 : wc.cell? ⟨gb371, 0, none⟩ = some (.int .i64 t368) := (blk_cell BK371.out 0).trans rfl
         have hcz59_1 : wc.cell? ⟨gb371, 1, none⟩ = some (.int .i64 t369) := (blk_cell BK371.out 1).trans rfl
         have hfz59_0 := blk_frozen BK371.out 0
         have hfz59_1 := blk_frozen BK371.out 1
         go_wp2
         go_ret
         exact ⟨by first | rfl | (simp [errW_none, errW_some] <;> rfl) | (simp [*, errW_none, errW_some] <;> rfl), by repeat (first | (with_reducible first | exact HB.out | apply below_alloc | apply pw_below_drewN | apply below_drew1 | refine below_set ?_ GE358.out | refine below_set ?_ GE359.out | refine below_set ?_ GE371.out) | exact HB.out)⟩
       ·rw [if_neg c46] at H
        have c46b0 : (t364 == 2) = false := beq_eq_false_iff_ne.mpr c46
        have c46b1 : (t364 != 2) = true := bne_iff_ne.mpr c46
        obtain rfl := Option.some.inj H
        have hnb60 := NB371_358.out
        have hnc60 := NB358_371.out
        have hnb61 := NB371_359.out
        have hnc61 := NB359_371.out
        have hcz62_0 : wc.cell? ⟨gb371, 0, none⟩ = some (.int .i64 t368) := (blk_cell BK371.out 0).trans rfl
        have hcz62_1 : wc.cell? ⟨gb371, 1, none⟩ = some (.int .i64 t369) := (blk_cell BK371.out 1).trans rfl
        have hfz62_0 := blk_frozen BK371.out 0
        have hfz62_1 := blk_frozen BK371.out 1
        go_wp2
        go_ret
        exact ⟨by first | rfl | (simp [errW_none, errW_some] <;> rfl) | (simp [*, errW_none, errW_some] <;> rfl), by repeat (first | (with_reducible first | exact HB.out | apply below_alloc | apply pw_below_drewN | apply below_drew1 | refine below_set ?_ GE358.out | refine below_set ?_ GE359.out | refine below_set ?_ GE371.out) | exact HB.out)⟩
     ·rw [if_neg c41] at H
      have c41b0 : (t368 == 0 && (t369 == 0)) = false := by simpa using c41
      (try (have c41b1 : decide (t368 = 0 && (t369 == 0)) = false := by simpa using c41))
      (try (have c41b2 : (t368 == 0 && (t369 == 0)) = false := by simpa using c41))
      (try (have c41b3 : ¬ (t368 = 0 && (t369 == 0)) := by simpa using c41))
      clear c41
      obtain rfl := Option.some.inj H
      have hnb63 := NB371_358.out
      have hnc63 := NB358_371.out
      have hnb64 := NB371_359.out
      have hnc64 := NB359_371.out
      have hcz65_0 : wc.cell? ⟨gb371, 0, none⟩ = some (.int .i64 t368) := (blk_cell BK371.out 0).trans rfl
      have hcz65_1 : wc.cell? ⟨gb371, 1, none⟩ = some (.int .i64 t369) := (blk_cell BK371.out 1).trans rfl
      have hfz65_0 := blk_frozen BK371.out 0
      have hfz65_1 := blk_frozen BK371.out 1
      go_wp2
      go_ret
      exact ⟨by first | rfl | (simp [errW_none, errW_some] <;> rfl) | (simp [*, errW_none, errW_some] <;> rfl), by repeat (first | (with_reducible first | exact HB.out | apply below_alloc | apply pw_below_drewN | apply below_drew1 | refine below_set ?_ GE358.out | refine below_set ?_ GE359.out | refine below_set ?_ GE371.out) | exact HB.out)⟩
    ·rw [if_neg c40] at H
     have c40b0 : (t363 == 0) = false := beq_eq_false_iff_ne.mpr c40
     have c40b1 : (t363 != 0) = true := bne_iff_ne.mpr c40
     obtain rfl := Option.some.inj H
     go_wp2
     go_ret
     exact ⟨by first | rfl | (simp [errW_none, errW_some] <;> rfl) | (simp [*, errW_none, errW_some] <;> rfl), by repeat (first | (with_reducible first | exact HB.out | apply below_alloc | apply pw_below_drewN | apply below_drew1 | refine below_set ?_ GE358.out | refine below_set ?_ GE359.out | refine below_set ?_ GE371.out) | exact HB.out)⟩
   ·replace c39 := Bool.eq_false_iff.mpr c39
    subst c39
    have H1 : ((comfitref06_Ends.f kj9 l0 a1_0 a1_1).bind fun bt380 => ((comfitref06_Circle.f kj9 l0 a1_0 a1_1).bind fun bt382 => (if t363 = bt380.1 then (if t364 = bt380.2 then (if (t368 == bt382.1 && (t369 == bt382.2.1)) = true then (if t370 = bt382.2.2 then ((comfitref06_CheckCircle.f kj9 l0 a1_0 a1_1 a2_0 a2_1).bind fun t386 => (if (t375 == t386) = true then (if t376 = 0 then ((comfitlaw06_awake.f kj9).bind fun t387 => (some t387)) else (some false)) else (some false))) else (some false)) else (some false)) else (some false)) else (some false)))) = some r := by rw [if_neg (show ¬ (false = true) by decide)] at H; exact H
    clear H
    have H := H1
    clear H1
    replace H := Option.bind_eq_some_iff.mp H
    obtain ⟨⟨t380, t381⟩, A660, H⟩ := H
    replace H : ((comfitref06_Circle.f kj9 l0 a1_0 a1_1).bind fun bt382 => (if t363 = t380 then (if t364 = t381 then (if (t368 == bt382.1 && (t369 == bt382.2.1)) = true then (if t370 = bt382.2.2 then ((comfitref06_CheckCircle.f kj9 l0 a1_0 a1_1 a2_0 a2_1).bind fun t386 => (if (t375 == t386) = true then (if t376 = 0 then ((comfitlaw06_awake.f kj9).bind fun t387 => (some t387)) else (some false)) else (some false))) else (some false)) else (some false)) else (some false)) else (some false))) = some r := H
    have A66 := Aside0.mk A660
    clear A660
    replace H := Option.bind_eq_some_iff.mp H
    obtain ⟨⟨t382, t383, t384⟩, A670, H⟩ := H
    replace H : (if t363 = t380 then (if t364 = t381 then (if (t368 == t382 && (t369 == t383)) = true then (if t370 = t384 then ((comfitref06_CheckCircle.f kj9 l0 a1_0 a1_1 a2_0 a2_1).bind fun t386 => (if (t375 == t386) = true then (if t376 = 0 then ((comfitlaw06_awake.f kj9).bind fun t387 => (some t387)) else (some false)) else (some false))) else (some false)) else (some false)) else (some false)) else (some false)) = some r := H
    have A67 := Aside0.mk A670
    clear A670
    by_cases c68 : t363 = t380
    ·rw [if_pos c68] at H
     have c68b0 : (t363 == t380) = true := beq_iff_eq.mpr c68
     have c68b1 : (t363 != t380) = false := bne_eq_false_iff_eq.mpr c68
     clear c68
     by_cases c69 : t364 = t381
     ·rw [if_pos c69] at H
      have c69b0 : (t364 == t381) = true := beq_iff_eq.mpr c69
      have c69b1 : (t364 != t381) = false := bne_eq_false_iff_eq.mpr c69
      clear c69
      by_cases c70 : (t368 == t382 && (t369 == t383)) = true
      ·rw [if_pos c70] at H
       have c70b0 : (t368 == t382 && (t369 == t383)) = true := c70
       (try (have c70b1 : decide (t368 = t382 && (t369 == t383)) = true := by simpa using c70))
       (try (have c70b2 : (t368 == t382 && (t369 == t383)) = true := by simpa using c70))
       clear c70
       by_cases c71 : t370 = t384
       ·rw [if_pos c71] at H
        have c71b0 : (t370 == t384) = true := beq_iff_eq.mpr c71
        have c71b1 : (t370 != t384) = false := bne_eq_false_iff_eq.mpr c71
        clear c71
        replace H := Option.bind_eq_some_iff.mp H
        obtain ⟨t386, A720, H⟩ := H
        replace H : (if (t375 == t386) = true then (if t376 = 0 then ((comfitlaw06_awake.f kj9).bind fun t387 => (some t387)) else (some false)) else (some false)) = some r := H
        have A72 := Aside0.mk A720
        clear A720
        by_cases c73 : (t375 == t386) = true
        ·rw [if_pos c73] at H
         have c73b0 : (t375 == t386) = true := c73
         (try (have c73b1 : decide (t375 = t386) = true := by simpa using c73))
         (try (have c73b2 : (t375 == t386) = true := by simpa using c73))
         clear c73
         by_cases c74 : t376 = 0
         ·rw [if_pos c74] at H
          have c74b0 : (t376 == 0) = true := beq_iff_eq.mpr c74
          have c74b1 : (t376 != 0) = false := bne_eq_false_iff_eq.mpr c74
          clear c74
          replace H := Option.bind_eq_some_iff.mp H
          obtain ⟨t387, A750, H⟩ := H
          replace H : (some t387) = some r := H
          have A75 := Aside0.mk A750
          clear A750
          obtain rfl := Option.some.inj H
          have hnb76 := NB358_359.out
          have hnc76 := NB359_358.out
          have hnb77 := NB358_371.out
          have hnc77 := NB371_358.out
          have hcz78_0 : wc.cell? ⟨gb358, 0, none⟩ = some (.int .i64 a1_0) := (blk_cell BK358.out 0).trans rfl
          have hcz78_1 : wc.cell? ⟨gb358, 1, none⟩ = some (.int .i64 a1_1) := (blk_cell BK358.out 1).trans rfl
          have hfz78_0 := blk_frozen BK358.out 0
          have hfz78_1 := blk_frozen BK358.out 1
          go_wp2_with (first | ((with_reducible refine gate_callee (f := 19) rfl ?_); refine goesL_ (some 76) rfl rfl Try.func19 (by kernel_rfl) rfl #[.slice A0 l0.length c0, .agg #[.int .i64 a1_0, .int .i64 a1_1]] rfl al_ ?_; (with_reducible refine (comfitref06_Ends.calls kj9 _ _ l0 a1_0 a1_1 t380 t381 _ ?side1 ?side2 A66.out).mono ?_); (case side1 => exact kc_ (Kd.C_below HR0.out HB.out)); (case side2 => exact HC0.out); rintro e w79 ⟨rfl, hb⟩; refine ⟨_, rfl, ?_⟩; have n0_ := Aside0.mk (bkb_ BK358.out hb); have n1_ := Aside0.mk (bkb_ BK359.out hb); have n2_ := Aside0.mk (bkb_ BK371.out hb); have n3_ := Aside0.mk (below_step (hb_ HB.out) hb); clear BK358; clear BK359; clear BK371; clear HB; have BK358 := n0_; have BK359 := n1_; have BK371 := n2_; have HB := n3_; clear n0_ n1_ n2_ n3_; (try clear hb); (try clear hb2); (try clear hk); (try clear hi); have hcz80_0 : w79.cell? ⟨gb358, 0, none⟩ = some (.int .i64 a1_0) := (blk_cell BK358.out 0).trans rfl; have hcz80_1 : w79.cell? ⟨gb358, 1, none⟩ = some (.int .i64 a1_1) := (blk_cell BK358.out 1).trans rfl; have hfz80_0 := blk_frozen BK358.out 0; have hfz80_1 := blk_frozen BK358.out 1) | ((with_reducible refine gate_callee (f := 20) rfl ?_); refine goesL_ (some 82) rfl rfl Try.func20 (by kernel_rfl) rfl #[.slice A0 l0.length c0, .agg #[.int .i64 a1_0, .int .i64 a1_1]] rfl al_ ?_; (with_reducible refine (comfitref06_Circle.calls kj9 _ _ l0 a1_0 a1_1 t382 t383 t384 _ ?side1 ?side2 A67.out).mono ?_); (case side1 => exact kc_ (Kd.C_below HR0.out HB.out)); (case side2 => exact HC0.out); rintro e w81 ⟨rfl, hb⟩; refine ⟨_, rfl, ?_⟩; have n0_ := Aside0.mk (bkb_ BK358.out hb); have n1_ := Aside0.mk (bkb_ BK359.out hb); have n2_ := Aside0.mk (bkb_ BK371.out hb); have n3_ := Aside0.mk (below_step (hb_ HB.out) hb); clear BK358; clear BK359; clear BK371; clear HB; have BK358 := n0_; have BK359 := n1_; have BK371 := n2_; have HB := n3_; clear n0_ n1_ n2_ n3_; (try clear hb); (try clear hb2); (try clear hk); (try clear hi)) | ((with_reducible refine gate_dst (N := 15) rfl ?_); refine box_event ?hg (N := 15) ?hd (cs := #[.int .i64 0, .int .i64 0]) (t := 23) ?hr ?_; (case hd => rfl); (case hg => rfl); (case hr => first | (go_simp; done) | (go_simp; rfl)); intro gb385 hg w82 hbox hb; have n0_ := Aside0.mk (bkb_ BK358.out hb); have n1_ := Aside0.mk (bkb_ BK359.out hb); have n2_ := Aside0.mk (bkb_ BK371.out hb); have n3_ := Aside0.mk (below_step (hb_ HB.out) hb); have n4_ := Aside0.mk (hbox); have n5_ := Aside0.mk ((by rw [hg]; exact (below_size (hb_ HB.out)) : w.heap.size ≤ gb385)); have n6_ := Aside0.mk ((by rw [hg]; exact (below_size (hb_ HB.out)) : w.heap.size ≤ gb385)); have n7_ := Aside0.mk ((by rw [hg]; exact Nat.ne_of_lt (bkl_ BK358.out) : gb358 ≠ gb385)); have n8_ := Aside0.mk ((by rw [hg]; exact Nat.ne_of_gt (bkl_ BK358.out) : gb385 ≠ gb358)); have n9_ := Aside0.mk ((by rw [hg]; exact Nat.ne_of_lt (bkl_ BK359.out) : gb359 ≠ gb385)); have n10_ := Aside0.mk ((by rw [hg]; exact Nat.ne_of_gt (bkl_ BK359.out) : gb385 ≠ gb359)); have n11_ := Aside0.mk ((by rw [hg]; exact Nat.ne_of_lt (bkl_ BK371.out) : gb371 ≠ gb385)); have n12_ := Aside0.mk ((by rw [hg]; exact Nat.ne_of_gt (bkl_ BK371.out) : gb385 ≠ gb371)); clear BK358; clear BK359; clear BK371; clear HB; have BK358 := n0_; have BK359 := n1_; have BK371 := n2_; have HB := n3_; have BK385 := n4_; have GW385 := n5_; have GE385 := n6_; have NB358_385 := n7_; have NB385_358 := n8_; have NB359_385 := n9_; have NB385_359 := n10_; have NB371_385 := n11_; have NB385_371 := n12_; clear n0_ n1_ n2_ n3_ n4_ n5_ n6_ n7_ n8_ n9_ n10_ n11_ n12_; clear hb hbox hg; have hnb83 := NB385_358.out; have hnc83 := NB358_385.out; have hnb84 := NB385_359.out; have hnc84 := NB359_385.out; have hnb85 := NB385_371.out; have hnc85 := NB371_385.out; have hcz86_0 : w82.cell? ⟨gb385, 0, none⟩ = some (.int .i64 0) := (blk_cell BK385.out 0).trans rfl; have hcz86_1 : w82.cell? ⟨gb385, 1, none⟩ = some (.int .i64 0) := (blk_cell BK385.out 1).trans rfl; have hfz86_0 := blk_frozen BK385.out 0; have hfz86_1 := blk_frozen BK385.out 1; have hnb87 := NB371_359.out; have hnc87 := NB359_371.out; have hcz88_0 : w82.cell? ⟨gb371, 0, none⟩ = some (.int .i64 t368) := (blk_cell BK371.out 0).trans rfl; have hcz88_1 : w82.cell? ⟨gb371, 1, none⟩ = some (.int .i64 t369) := (blk_cell BK371.out 1).trans rfl; have hfz88_0 := blk_frozen BK371.out 0; have hfz88_1 := blk_frozen BK371.out 1; have hcz89_0 : w82.cell? ⟨gb358, 0, none⟩ = some (.int .i64 a1_0) := (blk_cell BK358.out 0).trans rfl; have hcz89_1 : w82.cell? ⟨gb358, 1, none⟩ = some (.int .i64 a1_1) := (blk_cell BK358.out 1).trans rfl; have hfz89_0 := blk_frozen BK358.out 0; have hfz89_1 := blk_frozen BK358.out 1; have hcz90_0 : w82.cell? ⟨gb359, 0, none⟩ = some (.int .i64 a2_0) := (blk_cell BK359.out 0).trans rfl; have hcz90_1 : w82.cell? ⟨gb359, 1, none⟩ = some (.int .i64 a2_1) := (blk_cell BK359.out 1).trans rfl; have hfz90_0 := blk_frozen BK359.out 0; have hfz90_1 := blk_frozen BK359.out 1) | (go_at_call 21; (with_reducible refine (comfitref06_CheckCircle.calls kj9 _ _ l0 a1_0 a1_1 a2_0 a2_1 t386 _ ?side1 ?side2 A72.out).mono ?_); (case side1 => exact Kd.C_below HR0.out (hb_ HB.out)); (case side2 => exact HC0.out); rintro e w91 ⟨rfl, hb⟩; have n0_ := Aside0.mk (blk_below (g := gb358) (o := .cells #[.int .i64 a1_0, .int .i64 a1_1] 23 (0, 0)) (by (with_reducible repeat (first | refine blk_drewN ?_ _ | refine blk_drew ?_ | refine blk_alloc ?_ _)); refine blk_far ?_ NB358_385.out _; (with_reducible repeat (first | refine blk_drewN ?_ _ | refine blk_drew ?_ | refine blk_alloc ?_ _)); refine blk_far ?_ NB358_385.out _; (with_reducible repeat (first | refine blk_drewN ?_ _ | refine blk_drew ?_ | refine blk_alloc ?_ _)); exact BK358.out) hb); have n1_ := Aside0.mk (blk_below (g := gb359) (o := .cells #[.int .i64 a2_0, .int .i64 a2_1] 23 (0, 0)) (by (with_reducible repeat (first | refine blk_drewN ?_ _ | refine blk_drew ?_ | refine blk_alloc ?_ _)); refine blk_far ?_ NB359_385.out _; (with_reducible repeat (first | refine blk_drewN ?_ _ | refine blk_drew ?_ | refine blk_alloc ?_ _)); refine blk_far ?_ NB359_385.out _; (with_reducible repeat (first | refine blk_drewN ?_ _ | refine blk_drew ?_ | refine blk_alloc ?_ _)); exact BK359.out) hb); have n2_ := Aside0.mk (blk_below (g := gb371) (o := .cells #[.int .i64 t368, .int .i64 t369] 23 (0, 0)) (by (with_reducible repeat (first | refine blk_drewN ?_ _ | refine blk_drew ?_ | refine blk_alloc ?_ _)); refine blk_far ?_ NB371_385.out _; (with_reducible repeat (first | refine blk_drewN ?_ _ | refine blk_drew ?_ | refine blk_alloc ?_ _)); refine blk_far ?_ NB371_385.out _; (with_reducible repeat (first | refine blk_drewN ?_ _ | refine blk_drew ?_ | refine blk_alloc ?_ _)); exact BK371.out) hb); have n3_ := Aside0.mk (blk_below (g := gb385) (o := .cells #[.int .i64 t382, .int .i64 t383] 23 (0, 0)) (by (with_reducible repeat (first | refine blk_drewN ?_ _ | refine blk_drew ?_ | refine blk_alloc ?_ _)); refine blk_put (cs := #[.int .i64 t382, .int .i64 0]) ?_ 1 _ rfl; (with_reducible repeat (first | refine blk_drewN ?_ _ | refine blk_drew ?_ | refine blk_alloc ?_ _)); refine blk_put (cs := #[.int .i64 0, .int .i64 0]) ?_ 0 _ rfl; (with_reducible repeat (first | refine blk_drewN ?_ _ | refine blk_drew ?_ | refine blk_alloc ?_ _)); exact BK385.out) hb); have n4_ := Aside0.mk (below_step (hb_ HB.out) hb); clear BK358; clear BK359; clear BK371; clear BK385; clear HB; have BK358 := n0_; have BK359 := n1_; have BK371 := n2_; have BK385 := n3_; have HB := n4_; clear n0_ n1_ n2_ n3_ n4_; (try clear hb); (try clear hb2); (try clear hk); (try clear hi)) | (go_at_call 14; (with_reducible refine (comfitlaw06_awake.calls kj9  t387 _ A75.out).mono ?_); rintro e w92 ⟨rfl, hb⟩; have n0_ := Aside0.mk (bkb_ BK358.out hb); have n1_ := Aside0.mk (bkb_ BK359.out hb); have n2_ := Aside0.mk (bkb_ BK371.out hb); have n3_ := Aside0.mk (bkb_ BK385.out hb); have n4_ := Aside0.mk (below_step (hb_ HB.out) hb); clear BK358; clear BK359; clear BK371; clear BK385; clear HB; have BK358 := n0_; have BK359 := n1_; have BK371 := n2_; have BK385 := n3_; have HB := n4_; clear n0_ n1_ n2_ n3_ n4_; (try clear hb); (try clear hb2); (try clear hk); (try clear hi)))
          go_ret
          exact ⟨by first | rfl | (simp [errW_none, errW_some] <;> rfl) | (simp [*, errW_none, errW_some] <;> rfl), by repeat (first | (with_reducible first | exact HB.out | apply below_alloc | apply pw_below_drewN | apply below_drew1 | refine below_set ?_ GE358.out | refine below_set ?_ GE359.out | refine below_set ?_ GE371.out | refine below_set ?_ GE385.out) | exact HB.out)⟩
         ·rw [if_neg c74] at H
          have c74b0 : (t376 == 0) = false := beq_eq_false_iff_ne.mpr c74
          have c74b1 : (t376 != 0) = true := bne_iff_ne.mpr c74
          obtain rfl := Option.some.inj H
          have hnb93 := NB358_359.out
          have hnc93 := NB359_358.out
          have hnb94 := NB358_371.out
          have hnc94 := NB371_358.out
          have hcz95_0 : wc.cell? ⟨gb358, 0, none⟩ = some (.int .i64 a1_0) := (blk_cell BK358.out 0).trans rfl
          have hcz95_1 : wc.cell? ⟨gb358, 1, none⟩ = some (.int .i64 a1_1) := (blk_cell BK358.out 1).trans rfl
          have hfz95_0 := blk_frozen BK358.out 0
          have hfz95_1 := blk_frozen BK358.out 1
          go_wp2_with (first | ((with_reducible refine gate_callee (f := 19) rfl ?_); refine goesL_ (some 76) rfl rfl Try.func19 (by kernel_rfl) rfl #[.slice A0 l0.length c0, .agg #[.int .i64 a1_0, .int .i64 a1_1]] rfl al_ ?_; (with_reducible refine (comfitref06_Ends.calls kj9 _ _ l0 a1_0 a1_1 t380 t381 _ ?side1 ?side2 A66.out).mono ?_); (case side1 => exact kc_ (Kd.C_below HR0.out HB.out)); (case side2 => exact HC0.out); rintro e w96 ⟨rfl, hb⟩; refine ⟨_, rfl, ?_⟩; have n0_ := Aside0.mk (bkb_ BK358.out hb); have n1_ := Aside0.mk (bkb_ BK359.out hb); have n2_ := Aside0.mk (bkb_ BK371.out hb); have n3_ := Aside0.mk (below_step (hb_ HB.out) hb); clear BK358; clear BK359; clear BK371; clear HB; have BK358 := n0_; have BK359 := n1_; have BK371 := n2_; have HB := n3_; clear n0_ n1_ n2_ n3_; (try clear hb); (try clear hb2); (try clear hk); (try clear hi); have hcz97_0 : w96.cell? ⟨gb358, 0, none⟩ = some (.int .i64 a1_0) := (blk_cell BK358.out 0).trans rfl; have hcz97_1 : w96.cell? ⟨gb358, 1, none⟩ = some (.int .i64 a1_1) := (blk_cell BK358.out 1).trans rfl; have hfz97_0 := blk_frozen BK358.out 0; have hfz97_1 := blk_frozen BK358.out 1) | ((with_reducible refine gate_callee (f := 20) rfl ?_); refine goesL_ (some 82) rfl rfl Try.func20 (by kernel_rfl) rfl #[.slice A0 l0.length c0, .agg #[.int .i64 a1_0, .int .i64 a1_1]] rfl al_ ?_; (with_reducible refine (comfitref06_Circle.calls kj9 _ _ l0 a1_0 a1_1 t382 t383 t384 _ ?side1 ?side2 A67.out).mono ?_); (case side1 => exact kc_ (Kd.C_below HR0.out HB.out)); (case side2 => exact HC0.out); rintro e w98 ⟨rfl, hb⟩; refine ⟨_, rfl, ?_⟩; have n0_ := Aside0.mk (bkb_ BK358.out hb); have n1_ := Aside0.mk (bkb_ BK359.out hb); have n2_ := Aside0.mk (bkb_ BK371.out hb); have n3_ := Aside0.mk (below_step (hb_ HB.out) hb); clear BK358; clear BK359; clear BK371; clear HB; have BK358 := n0_; have BK359 := n1_; have BK371 := n2_; have HB := n3_; clear n0_ n1_ n2_ n3_; (try clear hb); (try clear hb2); (try clear hk); (try clear hi)) | ((with_reducible refine gate_dst (N := 15) rfl ?_); refine box_event ?hg (N := 15) ?hd (cs := #[.int .i64 0, .int .i64 0]) (t := 23) ?hr ?_; (case hd => rfl); (case hg => rfl); (case hr => first | (go_simp; done) | (go_simp; rfl)); intro gb385 hg w99 hbox hb; have n0_ := Aside0.mk (bkb_ BK358.out hb); have n1_ := Aside0.mk (bkb_ BK359.out hb); have n2_ := Aside0.mk (bkb_ BK371.out hb); have n3_ := Aside0.mk (below_step (hb_ HB.out) hb); have n4_ := Aside0.mk (hbox); have n5_ := Aside0.mk ((by rw [hg]; exact (below_size (hb_ HB.out)) : w.heap.size ≤ gb385)); have n6_ := Aside0.mk ((by rw [hg]; exact (below_size (hb_ HB.out)) : w.heap.size ≤ gb385)); have n7_ := Aside0.mk ((by rw [hg]; exact Nat.ne_of_lt (bkl_ BK358.out) : gb358 ≠ gb385)); have n8_ := Aside0.mk ((by rw [hg]; exact Nat.ne_of_gt (bkl_ BK358.out) : gb385 ≠ gb358)); have n9_ := Aside0.mk ((by rw [hg]; exact Nat.ne_of_lt (bkl_ BK359.out) : gb359 ≠ gb385)); have n10_ := Aside0.mk ((by rw [hg]; exact Nat.ne_of_gt (bkl_ BK359.out) : gb385 ≠ gb359)); have n11_ := Aside0.mk ((by rw [hg]; exact Nat.ne_of_lt (bkl_ BK371.out) : gb371 ≠ gb385)); have n12_ := Aside0.mk ((by rw [hg]; exact Nat.ne_of_gt (bkl_ BK371.out) : gb385 ≠ gb371)); clear BK358; clear BK359; clear BK371; clear HB; have BK358 := n0_; have BK359 := n1_; have BK371 := n2_; have HB := n3_; have BK385 := n4_; have GW385 := n5_; have GE385 := n6_; have NB358_385 := n7_; have NB385_358 := n8_; have NB359_385 := n9_; have NB385_359 := n10_; have NB371_385 := n11_; have NB385_371 := n12_; clear n0_ n1_ n2_ n3_ n4_ n5_ n6_ n7_ n8_ n9_ n10_ n11_ n12_; clear hb hbox hg; have hnb100 := NB385_358.out; have hnc100 := NB358_385.out; have hnb101 := NB385_359.out; have hnc101 := NB359_385.out; have hnb102 := NB385_371.out; have hnc102 := NB371_385.out; have hcz103_0 : w99.cell? ⟨gb385, 0, none⟩ = some (.int .i64 0) := (blk_cell BK385.out 0).trans rfl; have hcz103_1 : w99.cell? ⟨gb385, 1, none⟩ = some (.int .i64 0) := (blk_cell BK385.out 1).trans rfl; have hfz103_0 := blk_frozen BK385.out 0; have hfz103_1 := blk_frozen BK385.out 1; have hnb104 := NB371_359.out; have hnc104 := NB359_371.out; have hcz105_0 : w99.cell? ⟨gb371, 0, none⟩ = some (.int .i64 t368) := (blk_cell BK371.out 0).trans rfl; have hcz105_1 : w99.cell? ⟨gb371, 1, none⟩ = some (.int .i64 t369) := (blk_cell BK371.out 1).trans rfl; have hfz105_0 := blk_frozen BK371.out 0; have hfz105_1 := blk_frozen BK371.out 1; have hcz106_0 : w99.cell? ⟨gb358, 0, none⟩ = some (.int .i64 a1_0) := (blk_cell BK358.out 0).trans rfl; have hcz106_1 : w99.cell? ⟨gb358, 1, none⟩ = some (.int .i64 a1_1) := (blk_cell BK358.out 1).trans rfl; have hfz106_0 := blk_frozen BK358.out 0; have hfz106_1 := blk_frozen BK358.out 1; have hcz107_0 : w99.cell? ⟨gb359, 0, none⟩ = some (.int .i64 a2_0) := (blk_cell BK359.out 0).trans rfl; have hcz107_1 : w99.cell? ⟨gb359, 1, none⟩ = some (.int .i64 a2_1) := (blk_cell BK359.out 1).trans rfl; have hfz107_0 := blk_frozen BK359.out 0; have hfz107_1 := blk_frozen BK359.out 1) | (go_at_call 21; (with_reducible refine (comfitref06_CheckCircle.calls kj9 _ _ l0 a1_0 a1_1 a2_0 a2_1 t386 _ ?side1 ?side2 A72.out).mono ?_); (case side1 => exact Kd.C_below HR0.out (hb_ HB.out)); (case side2 => exact HC0.out); rintro e w108 ⟨rfl, hb⟩; have n0_ := Aside0.mk (blk_below (g := gb358) (o := .cells #[.int .i64 a1_0, .int .i64 a1_1] 23 (0, 0)) (by (with_reducible repeat (first | refine blk_drewN ?_ _ | refine blk_drew ?_ | refine blk_alloc ?_ _)); refine blk_far ?_ NB358_385.out _; (with_reducible repeat (first | refine blk_drewN ?_ _ | refine blk_drew ?_ | refine blk_alloc ?_ _)); refine blk_far ?_ NB358_385.out _; (with_reducible repeat (first | refine blk_drewN ?_ _ | refine blk_drew ?_ | refine blk_alloc ?_ _)); exact BK358.out) hb); have n1_ := Aside0.mk (blk_below (g := gb359) (o := .cells #[.int .i64 a2_0, .int .i64 a2_1] 23 (0, 0)) (by (with_reducible repeat (first | refine blk_drewN ?_ _ | refine blk_drew ?_ | refine blk_alloc ?_ _)); refine blk_far ?_ NB359_385.out _; (with_reducible repeat (first | refine blk_drewN ?_ _ | refine blk_drew ?_ | refine blk_alloc ?_ _)); refine blk_far ?_ NB359_385.out _; (with_reducible repeat (first | refine blk_drewN ?_ _ | refine blk_drew ?_ | refine blk_alloc ?_ _)); exact BK359.out) hb); have n2_ := Aside0.mk (blk_below (g := gb371) (o := .cells #[.int .i64 t368, .int .i64 t369] 23 (0, 0)) (by (with_reducible repeat (first | refine blk_drewN ?_ _ | refine blk_drew ?_ | refine blk_alloc ?_ _)); refine blk_far ?_ NB371_385.out _; (with_reducible repeat (first | refine blk_drewN ?_ _ | refine blk_drew ?_ | refine blk_alloc ?_ _)); refine blk_far ?_ NB371_385.out _; (with_reducible repeat (first | refine blk_drewN ?_ _ | refine blk_drew ?_ | refine blk_alloc ?_ _)); exact BK371.out) hb); have n3_ := Aside0.mk (blk_below (g := gb385) (o := .cells #[.int .i64 t382, .int .i64 t383] 23 (0, 0)) (by (with_reducible repeat (first | refine blk_drewN ?_ _ | refine blk_drew ?_ | refine blk_alloc ?_ _)); refine blk_put (cs := #[.int .i64 t382, .int .i64 0]) ?_ 1 _ rfl; (with_reducible repeat (first | refine blk_drewN ?_ _ | refine blk_drew ?_ | refine blk_alloc ?_ _)); refine blk_put (cs := #[.int .i64 0, .int .i64 0]) ?_ 0 _ rfl; (with_reducible repeat (first | refine blk_drewN ?_ _ | refine blk_drew ?_ | refine blk_alloc ?_ _)); exact BK385.out) hb); have n4_ := Aside0.mk (below_step (hb_ HB.out) hb); clear BK358; clear BK359; clear BK371; clear BK385; clear HB; have BK358 := n0_; have BK359 := n1_; have BK371 := n2_; have BK385 := n3_; have HB := n4_; clear n0_ n1_ n2_ n3_ n4_; (try clear hb); (try clear hb2); (try clear hk); (try clear hi)))
          go_ret
          exact ⟨by first | rfl | (simp [errW_none, errW_some] <;> rfl) | (simp [*, errW_none, errW_some] <;> rfl), by repeat (first | (with_reducible first | exact HB.out | apply below_alloc | apply pw_below_drewN | apply below_drew1 | refine below_set ?_ GE358.out | refine below_set ?_ GE359.out | refine below_set ?_ GE371.out | refine below_set ?_ GE385.out) | exact HB.out)⟩
        ·rw [if_neg c73] at H
         have c73b0 : (t375 == t386) = false := by simpa using c73
         (try (have c73b1 : decide (t375 = t386) = false := by simpa using c73))
         (try (have c73b2 : (t375 == t386) = false := by simpa using c73))
         (try (have c73b3 : ¬ (t375 = t386) := by simpa using c73))
         clear c73
         obtain rfl := Option.some.inj H
         have hnb109 := NB358_359.out
         have hnc109 := NB359_358.out
         have hnb110 := NB358_371.out
         have hnc110 := NB371_358.out
         have hcz111_0 : wc.cell? ⟨gb358, 0, none⟩ = some (.int .i64 a1_0) := (blk_cell BK358.out 0).trans rfl
         have hcz111_1 : wc.cell? ⟨gb358, 1, none⟩ = some (.int .i64 a1_1) := (blk_cell BK358.out 1).trans rfl
         have hfz111_0 := blk_frozen BK358.out 0
         have hfz111_1 := blk_frozen BK358.out 1
         go_wp2_with (first | ((with_reducible refine gate_callee (f := 19) rfl ?_); refine goesL_ (some 76) rfl rfl Try.func19 (by kernel_rfl) rfl #[.slice A0 l0.length c0, .agg #[.int .i64 a1_0, .int .i64 a1_1]] rfl al_ ?_; (with_reducible refine (comfitref06_Ends.calls kj9 _ _ l0 a1_0 a1_1 t380 t381 _ ?side1 ?side2 A66.out).mono ?_); (case side1 => exact kc_ (Kd.C_below HR0.out HB.out)); (case side2 => exact HC0.out); rintro e w112 ⟨rfl, hb⟩; refine ⟨_, rfl, ?_⟩; have n0_ := Aside0.mk (bkb_ BK358.out hb); have n1_ := Aside0.mk (bkb_ BK359.out hb); have n2_ := Aside0.mk (bkb_ BK371.out hb); have n3_ := Aside0.mk (below_step (hb_ HB.out) hb); clear BK358; clear BK359; clear BK371; clear HB; have BK358 := n0_; have BK359 := n1_; have BK371 := n2_; have HB := n3_; clear n0_ n1_ n2_ n3_; (try clear hb); (try clear hb2); (try clear hk); (try clear hi); have hcz113_0 : w112.cell? ⟨gb358, 0, none⟩ = some (.int .i64 a1_0) := (blk_cell BK358.out 0).trans rfl; have hcz113_1 : w112.cell? ⟨gb358, 1, none⟩ = some (.int .i64 a1_1) := (blk_cell BK358.out 1).trans rfl; have hfz113_0 := blk_frozen BK358.out 0; have hfz113_1 := blk_frozen BK358.out 1) | ((with_reducible refine gate_callee (f := 20) rfl ?_); refine goesL_ (some 82) rfl rfl Try.func20 (by kernel_rfl) rfl #[.slice A0 l0.length c0, .agg #[.int .i64 a1_0, .int .i64 a1_1]] rfl al_ ?_; (with_reducible refine (comfitref06_Circle.calls kj9 _ _ l0 a1_0 a1_1 t382 t383 t384 _ ?side1 ?side2 A67.out).mono ?_); (case side1 => exact kc_ (Kd.C_below HR0.out HB.out)); (case side2 => exact HC0.out); rintro e w114 ⟨rfl, hb⟩; refine ⟨_, rfl, ?_⟩; have n0_ := Aside0.mk (bkb_ BK358.out hb); have n1_ := Aside0.mk (bkb_ BK359.out hb); have n2_ := Aside0.mk (bkb_ BK371.out hb); have n3_ := Aside0.mk (below_step (hb_ HB.out) hb); clear BK358; clear BK359; clear BK371; clear HB; have BK358 := n0_; have BK359 := n1_; have BK371 := n2_; have HB := n3_; clear n0_ n1_ n2_ n3_; (try clear hb); (try clear hb2); (try clear hk); (try clear hi)) | ((with_reducible refine gate_dst (N := 15) rfl ?_); refine box_event ?hg (N := 15) ?hd (cs := #[.int .i64 0, .int .i64 0]) (t := 23) ?hr ?_; (case hd => rfl); (case hg => rfl); (case hr => first | (go_simp; done) | (go_simp; rfl)); intro gb385 hg w115 hbox hb; have n0_ := Aside0.mk (bkb_ BK358.out hb); have n1_ := Aside0.mk (bkb_ BK359.out hb); have n2_ := Aside0.mk (bkb_ BK371.out hb); have n3_ := Aside0.mk (below_step (hb_ HB.out) hb); have n4_ := Aside0.mk (hbox); have n5_ := Aside0.mk ((by rw [hg]; exact (below_size (hb_ HB.out)) : w.heap.size ≤ gb385)); have n6_ := Aside0.mk ((by rw [hg]; exact (below_size (hb_ HB.out)) : w.heap.size ≤ gb385)); have n7_ := Aside0.mk ((by rw [hg]; exact Nat.ne_of_lt (bkl_ BK358.out) : gb358 ≠ gb385)); have n8_ := Aside0.mk ((by rw [hg]; exact Nat.ne_of_gt (bkl_ BK358.out) : gb385 ≠ gb358)); have n9_ := Aside0.mk ((by rw [hg]; exact Nat.ne_of_lt (bkl_ BK359.out) : gb359 ≠ gb385)); have n10_ := Aside0.mk ((by rw [hg]; exact Nat.ne_of_gt (bkl_ BK359.out) : gb385 ≠ gb359)); have n11_ := Aside0.mk ((by rw [hg]; exact Nat.ne_of_lt (bkl_ BK371.out) : gb371 ≠ gb385)); have n12_ := Aside0.mk ((by rw [hg]; exact Nat.ne_of_gt (bkl_ BK371.out) : gb385 ≠ gb371)); clear BK358; clear BK359; clear BK371; clear HB; have BK358 := n0_; have BK359 := n1_; have BK371 := n2_; have HB := n3_; have BK385 := n4_; have GW385 := n5_; have GE385 := n6_; have NB358_385 := n7_; have NB385_358 := n8_; have NB359_385 := n9_; have NB385_359 := n10_; have NB371_385 := n11_; have NB385_371 := n12_; clear n0_ n1_ n2_ n3_ n4_ n5_ n6_ n7_ n8_ n9_ n10_ n11_ n12_; clear hb hbox hg; have hnb116 := NB385_358.out; have hnc116 := NB358_385.out; have hnb117 := NB385_359.out; have hnc117 := NB359_385.out; have hnb118 := NB385_371.out; have hnc118 := NB371_385.out; have hcz119_0 : w115.cell? ⟨gb385, 0, none⟩ = some (.int .i64 0) := (blk_cell BK385.out 0).trans rfl; have hcz119_1 : w115.cell? ⟨gb385, 1, none⟩ = some (.int .i64 0) := (blk_cell BK385.out 1).trans rfl; have hfz119_0 := blk_frozen BK385.out 0; have hfz119_1 := blk_frozen BK385.out 1; have hnb120 := NB371_359.out; have hnc120 := NB359_371.out; have hcz121_0 : w115.cell? ⟨gb371, 0, none⟩ = some (.int .i64 t368) := (blk_cell BK371.out 0).trans rfl; have hcz121_1 : w115.cell? ⟨gb371, 1, none⟩ = some (.int .i64 t369) := (blk_cell BK371.out 1).trans rfl; have hfz121_0 := blk_frozen BK371.out 0; have hfz121_1 := blk_frozen BK371.out 1; have hcz122_0 : w115.cell? ⟨gb358, 0, none⟩ = some (.int .i64 a1_0) := (blk_cell BK358.out 0).trans rfl; have hcz122_1 : w115.cell? ⟨gb358, 1, none⟩ = some (.int .i64 a1_1) := (blk_cell BK358.out 1).trans rfl; have hfz122_0 := blk_frozen BK358.out 0; have hfz122_1 := blk_frozen BK358.out 1; have hcz123_0 : w115.cell? ⟨gb359, 0, none⟩ = some (.int .i64 a2_0) := (blk_cell BK359.out 0).trans rfl; have hcz123_1 : w115.cell? ⟨gb359, 1, none⟩ = some (.int .i64 a2_1) := (blk_cell BK359.out 1).trans rfl; have hfz123_0 := blk_frozen BK359.out 0; have hfz123_1 := blk_frozen BK359.out 1) | (go_at_call 21; (with_reducible refine (comfitref06_CheckCircle.calls kj9 _ _ l0 a1_0 a1_1 a2_0 a2_1 t386 _ ?side1 ?side2 A72.out).mono ?_); (case side1 => exact Kd.C_below HR0.out (hb_ HB.out)); (case side2 => exact HC0.out); rintro e w124 ⟨rfl, hb⟩; have n0_ := Aside0.mk (blk_below (g := gb358) (o := .cells #[.int .i64 a1_0, .int .i64 a1_1] 23 (0, 0)) (by (with_reducible repeat (first | refine blk_drewN ?_ _ | refine blk_drew ?_ | refine blk_alloc ?_ _)); refine blk_far ?_ NB358_385.out _; (with_reducible repeat (first | refine blk_drewN ?_ _ | refine blk_drew ?_ | refine blk_alloc ?_ _)); refine blk_far ?_ NB358_385.out _; (with_reducible repeat (first | refine blk_drewN ?_ _ | refine blk_drew ?_ | refine blk_alloc ?_ _)); exact BK358.out) hb); have n1_ := Aside0.mk (blk_below (g := gb359) (o := .cells #[.int .i64 a2_0, .int .i64 a2_1] 23 (0, 0)) (by (with_reducible repeat (first | refine blk_drewN ?_ _ | refine blk_drew ?_ | refine blk_alloc ?_ _)); refine blk_far ?_ NB359_385.out _; (with_reducible repeat (first | refine blk_drewN ?_ _ | refine blk_drew ?_ | refine blk_alloc ?_ _)); refine blk_far ?_ NB359_385.out _; (with_reducible repeat (first | refine blk_drewN ?_ _ | refine blk_drew ?_ | refine blk_alloc ?_ _)); exact BK359.out) hb); have n2_ := Aside0.mk (blk_below (g := gb371) (o := .cells #[.int .i64 t368, .int .i64 t369] 23 (0, 0)) (by (with_reducible repeat (first | refine blk_drewN ?_ _ | refine blk_drew ?_ | refine blk_alloc ?_ _)); refine blk_far ?_ NB371_385.out _; (with_reducible repeat (first | refine blk_drewN ?_ _ | refine blk_drew ?_ | refine blk_alloc ?_ _)); refine blk_far ?_ NB371_385.out _; (with_reducible repeat (first | refine blk_drewN ?_ _ | refine blk_drew ?_ | refine blk_alloc ?_ _)); exact BK371.out) hb); have n3_ := Aside0.mk (blk_below (g := gb385) (o := .cells #[.int .i64 t382, .int .i64 t383] 23 (0, 0)) (by (with_reducible repeat (first | refine blk_drewN ?_ _ | refine blk_drew ?_ | refine blk_alloc ?_ _)); refine blk_put (cs := #[.int .i64 t382, .int .i64 0]) ?_ 1 _ rfl; (with_reducible repeat (first | refine blk_drewN ?_ _ | refine blk_drew ?_ | refine blk_alloc ?_ _)); refine blk_put (cs := #[.int .i64 0, .int .i64 0]) ?_ 0 _ rfl; (with_reducible repeat (first | refine blk_drewN ?_ _ | refine blk_drew ?_ | refine blk_alloc ?_ _)); exact BK385.out) hb); have n4_ := Aside0.mk (below_step (hb_ HB.out) hb); clear BK358; clear BK359; clear BK371; clear BK385; clear HB; have BK358 := n0_; have BK359 := n1_; have BK371 := n2_; have BK385 := n3_; have HB := n4_; clear n0_ n1_ n2_ n3_ n4_; (try clear hb); (try clear hb2); (try clear hk); (try clear hi)))
         go_ret
         exact ⟨by first | rfl | (simp [errW_none, errW_some] <;> rfl) | (simp [*, errW_none, errW_some] <;> rfl), by repeat (first | (with_reducible first | exact HB.out | apply below_alloc | apply pw_below_drewN | apply below_drew1 | refine below_set ?_ GE358.out | refine below_set ?_ GE359.out | refine below_set ?_ GE371.out | refine below_set ?_ GE385.out) | exact HB.out)⟩
       ·rw [if_neg c71] at H
        have c71b0 : (t370 == t384) = false := beq_eq_false_iff_ne.mpr c71
        have c71b1 : (t370 != t384) = true := bne_iff_ne.mpr c71
        obtain rfl := Option.some.inj H
        have hnb125 := NB358_359.out
        have hnc125 := NB359_358.out
        have hnb126 := NB358_371.out
        have hnc126 := NB371_358.out
        have hcz127_0 : wc.cell? ⟨gb358, 0, none⟩ = some (.int .i64 a1_0) := (blk_cell BK358.out 0).trans rfl
        have hcz127_1 : wc.cell? ⟨gb358, 1, none⟩ = some (.int .i64 a1_1) := (blk_cell BK358.out 1).trans rfl
        have hfz127_0 := blk_frozen BK358.out 0
        have hfz127_1 := blk_frozen BK358.out 1
        go_wp2_with (first | ((with_reducible refine gate_callee (f := 19) rfl ?_); refine goesL_ (some 76) rfl rfl Try.func19 (by kernel_rfl) rfl #[.slice A0 l0.length c0, .agg #[.int .i64 a1_0, .int .i64 a1_1]] rfl al_ ?_; (with_reducible refine (comfitref06_Ends.calls kj9 _ _ l0 a1_0 a1_1 t380 t381 _ ?side1 ?side2 A66.out).mono ?_); (case side1 => exact kc_ (Kd.C_below HR0.out HB.out)); (case side2 => exact HC0.out); rintro e w128 ⟨rfl, hb⟩; refine ⟨_, rfl, ?_⟩; have n0_ := Aside0.mk (bkb_ BK358.out hb); have n1_ := Aside0.mk (bkb_ BK359.out hb); have n2_ := Aside0.mk (bkb_ BK371.out hb); have n3_ := Aside0.mk (below_step (hb_ HB.out) hb); clear BK358; clear BK359; clear BK371; clear HB; have BK358 := n0_; have BK359 := n1_; have BK371 := n2_; have HB := n3_; clear n0_ n1_ n2_ n3_; (try clear hb); (try clear hb2); (try clear hk); (try clear hi); have hcz129_0 : w128.cell? ⟨gb358, 0, none⟩ = some (.int .i64 a1_0) := (blk_cell BK358.out 0).trans rfl; have hcz129_1 : w128.cell? ⟨gb358, 1, none⟩ = some (.int .i64 a1_1) := (blk_cell BK358.out 1).trans rfl; have hfz129_0 := blk_frozen BK358.out 0; have hfz129_1 := blk_frozen BK358.out 1) | ((with_reducible refine gate_callee (f := 20) rfl ?_); refine goesL_ (some 82) rfl rfl Try.func20 (by kernel_rfl) rfl #[.slice A0 l0.length c0, .agg #[.int .i64 a1_0, .int .i64 a1_1]] rfl al_ ?_; (with_reducible refine (comfitref06_Circle.calls kj9 _ _ l0 a1_0 a1_1 t382 t383 t384 _ ?side1 ?side2 A67.out).mono ?_); (case side1 => exact kc_ (Kd.C_below HR0.out HB.out)); (case side2 => exact HC0.out); rintro e w130 ⟨rfl, hb⟩; refine ⟨_, rfl, ?_⟩; have n0_ := Aside0.mk (bkb_ BK358.out hb); have n1_ := Aside0.mk (bkb_ BK359.out hb); have n2_ := Aside0.mk (bkb_ BK371.out hb); have n3_ := Aside0.mk (below_step (hb_ HB.out) hb); clear BK358; clear BK359; clear BK371; clear HB; have BK358 := n0_; have BK359 := n1_; have BK371 := n2_; have HB := n3_; clear n0_ n1_ n2_ n3_; (try clear hb); (try clear hb2); (try clear hk); (try clear hi)) | ((with_reducible refine gate_dst (N := 15) rfl ?_); refine box_event ?hg (N := 15) ?hd (cs := #[.int .i64 0, .int .i64 0]) (t := 23) ?hr ?_; (case hd => rfl); (case hg => rfl); (case hr => first | (go_simp; done) | (go_simp; rfl)); intro gb385 hg w131 hbox hb; have n0_ := Aside0.mk (bkb_ BK358.out hb); have n1_ := Aside0.mk (bkb_ BK359.out hb); have n2_ := Aside0.mk (bkb_ BK371.out hb); have n3_ := Aside0.mk (below_step (hb_ HB.out) hb); have n4_ := Aside0.mk (hbox); have n5_ := Aside0.mk ((by rw [hg]; exact (below_size (hb_ HB.out)) : w.heap.size ≤ gb385)); have n6_ := Aside0.mk ((by rw [hg]; exact (below_size (hb_ HB.out)) : w.heap.size ≤ gb385)); have n7_ := Aside0.mk ((by rw [hg]; exact Nat.ne_of_lt (bkl_ BK358.out) : gb358 ≠ gb385)); have n8_ := Aside0.mk ((by rw [hg]; exact Nat.ne_of_gt (bkl_ BK358.out) : gb385 ≠ gb358)); have n9_ := Aside0.mk ((by rw [hg]; exact Nat.ne_of_lt (bkl_ BK359.out) : gb359 ≠ gb385)); have n10_ := Aside0.mk ((by rw [hg]; exact Nat.ne_of_gt (bkl_ BK359.out) : gb385 ≠ gb359)); have n11_ := Aside0.mk ((by rw [hg]; exact Nat.ne_of_lt (bkl_ BK371.out) : gb371 ≠ gb385)); have n12_ := Aside0.mk ((by rw [hg]; exact Nat.ne_of_gt (bkl_ BK371.out) : gb385 ≠ gb371)); clear BK358; clear BK359; clear BK371; clear HB; have BK358 := n0_; have BK359 := n1_; have BK371 := n2_; have HB := n3_; have BK385 := n4_; have GW385 := n5_; have GE385 := n6_; have NB358_385 := n7_; have NB385_358 := n8_; have NB359_385 := n9_; have NB385_359 := n10_; have NB371_385 := n11_; have NB385_371 := n12_; clear n0_ n1_ n2_ n3_ n4_ n5_ n6_ n7_ n8_ n9_ n10_ n11_ n12_; clear hb hbox hg; have hnb132 := NB385_358.out; have hnc132 := NB358_385.out; have hnb133 := NB385_359.out; have hnc133 := NB359_385.out; have hnb134 := NB385_371.out; have hnc134 := NB371_385.out; have hcz135_0 : w131.cell? ⟨gb385, 0, none⟩ = some (.int .i64 0) := (blk_cell BK385.out 0).trans rfl; have hcz135_1 : w131.cell? ⟨gb385, 1, none⟩ = some (.int .i64 0) := (blk_cell BK385.out 1).trans rfl; have hfz135_0 := blk_frozen BK385.out 0; have hfz135_1 := blk_frozen BK385.out 1; have hnb136 := NB371_359.out; have hnc136 := NB359_371.out; have hcz137_0 : w131.cell? ⟨gb371, 0, none⟩ = some (.int .i64 t368) := (blk_cell BK371.out 0).trans rfl; have hcz137_1 : w131.cell? ⟨gb371, 1, none⟩ = some (.int .i64 t369) := (blk_cell BK371.out 1).trans rfl; have hfz137_0 := blk_frozen BK371.out 0; have hfz137_1 := blk_frozen BK371.out 1))
        go_ret
        exact ⟨by first | rfl | (simp [errW_none, errW_some] <;> rfl) | (simp [*, errW_none, errW_some] <;> rfl), by repeat (first | (with_reducible first | exact HB.out | apply below_alloc | apply pw_below_drewN | apply below_drew1 | refine below_set ?_ GE358.out | refine below_set ?_ GE359.out | refine below_set ?_ GE371.out | refine below_set ?_ GE385.out) | exact HB.out)⟩
      ·rw [if_neg c70] at H
       have c70b0 : (t368 == t382 && (t369 == t383)) = false := by simpa using c70
       (try (have c70b1 : decide (t368 = t382 && (t369 == t383)) = false := by simpa using c70))
       (try (have c70b2 : (t368 == t382 && (t369 == t383)) = false := by simpa using c70))
       (try (have c70b3 : ¬ (t368 = t382 && (t369 == t383)) := by simpa using c70))
       clear c70
       obtain rfl := Option.some.inj H
       have hnb138 := NB358_359.out
       have hnc138 := NB359_358.out
       have hnb139 := NB358_371.out
       have hnc139 := NB371_358.out
       have hcz140_0 : wc.cell? ⟨gb358, 0, none⟩ = some (.int .i64 a1_0) := (blk_cell BK358.out 0).trans rfl
       have hcz140_1 : wc.cell? ⟨gb358, 1, none⟩ = some (.int .i64 a1_1) := (blk_cell BK358.out 1).trans rfl
       have hfz140_0 := blk_frozen BK358.out 0
       have hfz140_1 := blk_frozen BK358.out 1
       go_wp2_with (first | ((with_reducible refine gate_callee (f := 19) rfl ?_); refine goesL_ (some 76) rfl rfl Try.func19 (by kernel_rfl) rfl #[.slice A0 l0.length c0, .agg #[.int .i64 a1_0, .int .i64 a1_1]] rfl al_ ?_; (with_reducible refine (comfitref06_Ends.calls kj9 _ _ l0 a1_0 a1_1 t380 t381 _ ?side1 ?side2 A66.out).mono ?_); (case side1 => exact kc_ (Kd.C_below HR0.out HB.out)); (case side2 => exact HC0.out); rintro e w141 ⟨rfl, hb⟩; refine ⟨_, rfl, ?_⟩; have n0_ := Aside0.mk (bkb_ BK358.out hb); have n1_ := Aside0.mk (bkb_ BK359.out hb); have n2_ := Aside0.mk (bkb_ BK371.out hb); have n3_ := Aside0.mk (below_step (hb_ HB.out) hb); clear BK358; clear BK359; clear BK371; clear HB; have BK358 := n0_; have BK359 := n1_; have BK371 := n2_; have HB := n3_; clear n0_ n1_ n2_ n3_; (try clear hb); (try clear hb2); (try clear hk); (try clear hi); have hcz142_0 : w141.cell? ⟨gb358, 0, none⟩ = some (.int .i64 a1_0) := (blk_cell BK358.out 0).trans rfl; have hcz142_1 : w141.cell? ⟨gb358, 1, none⟩ = some (.int .i64 a1_1) := (blk_cell BK358.out 1).trans rfl; have hfz142_0 := blk_frozen BK358.out 0; have hfz142_1 := blk_frozen BK358.out 1) | ((with_reducible refine gate_callee (f := 20) rfl ?_); refine goesL_ (some 82) rfl rfl Try.func20 (by kernel_rfl) rfl #[.slice A0 l0.length c0, .agg #[.int .i64 a1_0, .int .i64 a1_1]] rfl al_ ?_; (with_reducible refine (comfitref06_Circle.calls kj9 _ _ l0 a1_0 a1_1 t382 t383 t384 _ ?side1 ?side2 A67.out).mono ?_); (case side1 => exact kc_ (Kd.C_below HR0.out HB.out)); (case side2 => exact HC0.out); rintro e w143 ⟨rfl, hb⟩; refine ⟨_, rfl, ?_⟩; have n0_ := Aside0.mk (bkb_ BK358.out hb); have n1_ := Aside0.mk (bkb_ BK359.out hb); have n2_ := Aside0.mk (bkb_ BK371.out hb); have n3_ := Aside0.mk (below_step (hb_ HB.out) hb); clear BK358; clear BK359; clear BK371; clear HB; have BK358 := n0_; have BK359 := n1_; have BK371 := n2_; have HB := n3_; clear n0_ n1_ n2_ n3_; (try clear hb); (try clear hb2); (try clear hk); (try clear hi)) | ((with_reducible refine gate_dst (N := 15) rfl ?_); refine box_event ?hg (N := 15) ?hd (cs := #[.int .i64 0, .int .i64 0]) (t := 23) ?hr ?_; (case hd => rfl); (case hg => rfl); (case hr => first | (go_simp; done) | (go_simp; rfl)); intro gb385 hg w144 hbox hb; have n0_ := Aside0.mk (bkb_ BK358.out hb); have n1_ := Aside0.mk (bkb_ BK359.out hb); have n2_ := Aside0.mk (bkb_ BK371.out hb); have n3_ := Aside0.mk (below_step (hb_ HB.out) hb); have n4_ := Aside0.mk (hbox); have n5_ := Aside0.mk ((by rw [hg]; exact (below_size (hb_ HB.out)) : w.heap.size ≤ gb385)); have n6_ := Aside0.mk ((by rw [hg]; exact (below_size (hb_ HB.out)) : w.heap.size ≤ gb385)); have n7_ := Aside0.mk ((by rw [hg]; exact Nat.ne_of_lt (bkl_ BK358.out) : gb358 ≠ gb385)); have n8_ := Aside0.mk ((by rw [hg]; exact Nat.ne_of_gt (bkl_ BK358.out) : gb385 ≠ gb358)); have n9_ := Aside0.mk ((by rw [hg]; exact Nat.ne_of_lt (bkl_ BK359.out) : gb359 ≠ gb385)); have n10_ := Aside0.mk ((by rw [hg]; exact Nat.ne_of_gt (bkl_ BK359.out) : gb385 ≠ gb359)); have n11_ := Aside0.mk ((by rw [hg]; exact Nat.ne_of_lt (bkl_ BK371.out) : gb371 ≠ gb385)); have n12_ := Aside0.mk ((by rw [hg]; exact Nat.ne_of_gt (bkl_ BK371.out) : gb385 ≠ gb371)); clear BK358; clear BK359; clear BK371; clear HB; have BK358 := n0_; have BK359 := n1_; have BK371 := n2_; have HB := n3_; have BK385 := n4_; have GW385 := n5_; have GE385 := n6_; have NB358_385 := n7_; have NB385_358 := n8_; have NB359_385 := n9_; have NB385_359 := n10_; have NB371_385 := n11_; have NB385_371 := n12_; clear n0_ n1_ n2_ n3_ n4_ n5_ n6_ n7_ n8_ n9_ n10_ n11_ n12_; clear hb hbox hg; have hnb145 := NB385_358.out; have hnc145 := NB358_385.out; have hnb146 := NB385_359.out; have hnc146 := NB359_385.out; have hnb147 := NB385_371.out; have hnc147 := NB371_385.out; have hcz148_0 : w144.cell? ⟨gb385, 0, none⟩ = some (.int .i64 0) := (blk_cell BK385.out 0).trans rfl; have hcz148_1 : w144.cell? ⟨gb385, 1, none⟩ = some (.int .i64 0) := (blk_cell BK385.out 1).trans rfl; have hfz148_0 := blk_frozen BK385.out 0; have hfz148_1 := blk_frozen BK385.out 1; have hnb149 := NB371_359.out; have hnc149 := NB359_371.out; have hcz150_0 : w144.cell? ⟨gb371, 0, none⟩ = some (.int .i64 t368) := (blk_cell BK371.out 0).trans rfl; have hcz150_1 : w144.cell? ⟨gb371, 1, none⟩ = some (.int .i64 t369) := (blk_cell BK371.out 1).trans rfl; have hfz150_0 := blk_frozen BK371.out 0; have hfz150_1 := blk_frozen BK371.out 1))
       go_ret
       exact ⟨by first | rfl | (simp [errW_none, errW_some] <;> rfl) | (simp [*, errW_none, errW_some] <;> rfl), by repeat (first | (with_reducible first | exact HB.out | apply below_alloc | apply pw_below_drewN | apply below_drew1 | refine below_set ?_ GE358.out | refine below_set ?_ GE359.out | refine below_set ?_ GE371.out | refine below_set ?_ GE385.out) | exact HB.out)⟩
     ·rw [if_neg c69] at H
      have c69b0 : (t364 == t381) = false := beq_eq_false_iff_ne.mpr c69
      have c69b1 : (t364 != t381) = true := bne_iff_ne.mpr c69
      obtain rfl := Option.some.inj H
      have hnb151 := NB358_359.out
      have hnc151 := NB359_358.out
      have hnb152 := NB358_371.out
      have hnc152 := NB371_358.out
      have hcz153_0 : wc.cell? ⟨gb358, 0, none⟩ = some (.int .i64 a1_0) := (blk_cell BK358.out 0).trans rfl
      have hcz153_1 : wc.cell? ⟨gb358, 1, none⟩ = some (.int .i64 a1_1) := (blk_cell BK358.out 1).trans rfl
      have hfz153_0 := blk_frozen BK358.out 0
      have hfz153_1 := blk_frozen BK358.out 1
      go_wp2_with (first | ((with_reducible refine gate_callee (f := 19) rfl ?_); refine goesL_ (some 76) rfl rfl Try.func19 (by kernel_rfl) rfl #[.slice A0 l0.length c0, .agg #[.int .i64 a1_0, .int .i64 a1_1]] rfl al_ ?_; (with_reducible refine (comfitref06_Ends.calls kj9 _ _ l0 a1_0 a1_1 t380 t381 _ ?side1 ?side2 A66.out).mono ?_); (case side1 => exact kc_ (Kd.C_below HR0.out HB.out)); (case side2 => exact HC0.out); rintro e w154 ⟨rfl, hb⟩; refine ⟨_, rfl, ?_⟩; have n0_ := Aside0.mk (bkb_ BK358.out hb); have n1_ := Aside0.mk (bkb_ BK359.out hb); have n2_ := Aside0.mk (bkb_ BK371.out hb); have n3_ := Aside0.mk (below_step (hb_ HB.out) hb); clear BK358; clear BK359; clear BK371; clear HB; have BK358 := n0_; have BK359 := n1_; have BK371 := n2_; have HB := n3_; clear n0_ n1_ n2_ n3_; (try clear hb); (try clear hb2); (try clear hk); (try clear hi); have hcz155_0 : w154.cell? ⟨gb358, 0, none⟩ = some (.int .i64 a1_0) := (blk_cell BK358.out 0).trans rfl; have hcz155_1 : w154.cell? ⟨gb358, 1, none⟩ = some (.int .i64 a1_1) := (blk_cell BK358.out 1).trans rfl; have hfz155_0 := blk_frozen BK358.out 0; have hfz155_1 := blk_frozen BK358.out 1) | ((with_reducible refine gate_callee (f := 20) rfl ?_); refine goesL_ (some 82) rfl rfl Try.func20 (by kernel_rfl) rfl #[.slice A0 l0.length c0, .agg #[.int .i64 a1_0, .int .i64 a1_1]] rfl al_ ?_; (with_reducible refine (comfitref06_Circle.calls kj9 _ _ l0 a1_0 a1_1 t382 t383 t384 _ ?side1 ?side2 A67.out).mono ?_); (case side1 => exact kc_ (Kd.C_below HR0.out HB.out)); (case side2 => exact HC0.out); rintro e w156 ⟨rfl, hb⟩; refine ⟨_, rfl, ?_⟩; have n0_ := Aside0.mk (bkb_ BK358.out hb); have n1_ := Aside0.mk (bkb_ BK359.out hb); have n2_ := Aside0.mk (bkb_ BK371.out hb); have n3_ := Aside0.mk (below_step (hb_ HB.out) hb); clear BK358; clear BK359; clear BK371; clear HB; have BK358 := n0_; have BK359 := n1_; have BK371 := n2_; have HB := n3_; clear n0_ n1_ n2_ n3_; (try clear hb); (try clear hb2); (try clear hk); (try clear hi)) | ((with_reducible refine gate_dst (N := 15) rfl ?_); refine box_event ?hg (N := 15) ?hd (cs := #[.int .i64 0, .int .i64 0]) (t := 23) ?hr ?_; (case hd => rfl); (case hg => rfl); (case hr => first | (go_simp; done) | (go_simp; rfl)); intro gb385 hg w157 hbox hb; have n0_ := Aside0.mk (bkb_ BK358.out hb); have n1_ := Aside0.mk (bkb_ BK359.out hb); have n2_ := Aside0.mk (bkb_ BK371.out hb); have n3_ := Aside0.mk (below_step (hb_ HB.out) hb); have n4_ := Aside0.mk (hbox); have n5_ := Aside0.mk ((by rw [hg]; exact (below_size (hb_ HB.out)) : w.heap.size ≤ gb385)); have n6_ := Aside0.mk ((by rw [hg]; exact (below_size (hb_ HB.out)) : w.heap.size ≤ gb385)); have n7_ := Aside0.mk ((by rw [hg]; exact Nat.ne_of_lt (bkl_ BK358.out) : gb358 ≠ gb385)); have n8_ := Aside0.mk ((by rw [hg]; exact Nat.ne_of_gt (bkl_ BK358.out) : gb385 ≠ gb358)); have n9_ := Aside0.mk ((by rw [hg]; exact Nat.ne_of_lt (bkl_ BK359.out) : gb359 ≠ gb385)); have n10_ := Aside0.mk ((by rw [hg]; exact Nat.ne_of_gt (bkl_ BK359.out) : gb385 ≠ gb359)); have n11_ := Aside0.mk ((by rw [hg]; exact Nat.ne_of_lt (bkl_ BK371.out) : gb371 ≠ gb385)); have n12_ := Aside0.mk ((by rw [hg]; exact Nat.ne_of_gt (bkl_ BK371.out) : gb385 ≠ gb371)); clear BK358; clear BK359; clear BK371; clear HB; have BK358 := n0_; have BK359 := n1_; have BK371 := n2_; have HB := n3_; have BK385 := n4_; have GW385 := n5_; have GE385 := n6_; have NB358_385 := n7_; have NB385_358 := n8_; have NB359_385 := n9_; have NB385_359 := n10_; have NB371_385 := n11_; have NB385_371 := n12_; clear n0_ n1_ n2_ n3_ n4_ n5_ n6_ n7_ n8_ n9_ n10_ n11_ n12_; clear hb hbox hg; have hnb158 := NB385_358.out; have hnc158 := NB358_385.out; have hnb159 := NB385_359.out; have hnc159 := NB359_385.out; have hnb160 := NB385_371.out; have hnc160 := NB371_385.out; have hcz161_0 : w157.cell? ⟨gb385, 0, none⟩ = some (.int .i64 0) := (blk_cell BK385.out 0).trans rfl; have hcz161_1 : w157.cell? ⟨gb385, 1, none⟩ = some (.int .i64 0) := (blk_cell BK385.out 1).trans rfl; have hfz161_0 := blk_frozen BK385.out 0; have hfz161_1 := blk_frozen BK385.out 1))
      go_ret
      exact ⟨by first | rfl | (simp [errW_none, errW_some] <;> rfl) | (simp [*, errW_none, errW_some] <;> rfl), by repeat (first | (with_reducible first | exact HB.out | apply below_alloc | apply pw_below_drewN | apply below_drew1 | refine below_set ?_ GE358.out | refine below_set ?_ GE359.out | refine below_set ?_ GE371.out | refine below_set ?_ GE385.out) | exact HB.out)⟩
    ·rw [if_neg c68] at H
     have c68b0 : (t363 == t380) = false := beq_eq_false_iff_ne.mpr c68
     have c68b1 : (t363 != t380) = true := bne_iff_ne.mpr c68
     obtain rfl := Option.some.inj H
     have hnb162 := NB358_359.out
     have hnc162 := NB359_358.out
     have hnb163 := NB358_371.out
     have hnc163 := NB371_358.out
     have hcz164_0 : wc.cell? ⟨gb358, 0, none⟩ = some (.int .i64 a1_0) := (blk_cell BK358.out 0).trans rfl
     have hcz164_1 : wc.cell? ⟨gb358, 1, none⟩ = some (.int .i64 a1_1) := (blk_cell BK358.out 1).trans rfl
     have hfz164_0 := blk_frozen BK358.out 0
     have hfz164_1 := blk_frozen BK358.out 1
     go_wp2_with (first | ((with_reducible refine gate_callee (f := 19) rfl ?_); refine goesL_ (some 76) rfl rfl Try.func19 (by kernel_rfl) rfl #[.slice A0 l0.length c0, .agg #[.int .i64 a1_0, .int .i64 a1_1]] rfl al_ ?_; (with_reducible refine (comfitref06_Ends.calls kj9 _ _ l0 a1_0 a1_1 t380 t381 _ ?side1 ?side2 A66.out).mono ?_); (case side1 => exact kc_ (Kd.C_below HR0.out HB.out)); (case side2 => exact HC0.out); rintro e w165 ⟨rfl, hb⟩; refine ⟨_, rfl, ?_⟩; have n0_ := Aside0.mk (bkb_ BK358.out hb); have n1_ := Aside0.mk (bkb_ BK359.out hb); have n2_ := Aside0.mk (bkb_ BK371.out hb); have n3_ := Aside0.mk (below_step (hb_ HB.out) hb); clear BK358; clear BK359; clear BK371; clear HB; have BK358 := n0_; have BK359 := n1_; have BK371 := n2_; have HB := n3_; clear n0_ n1_ n2_ n3_; (try clear hb); (try clear hb2); (try clear hk); (try clear hi); have hcz166_0 : w165.cell? ⟨gb358, 0, none⟩ = some (.int .i64 a1_0) := (blk_cell BK358.out 0).trans rfl; have hcz166_1 : w165.cell? ⟨gb358, 1, none⟩ = some (.int .i64 a1_1) := (blk_cell BK358.out 1).trans rfl; have hfz166_0 := blk_frozen BK358.out 0; have hfz166_1 := blk_frozen BK358.out 1) | ((with_reducible refine gate_callee (f := 20) rfl ?_); refine goesL_ (some 82) rfl rfl Try.func20 (by kernel_rfl) rfl #[.slice A0 l0.length c0, .agg #[.int .i64 a1_0, .int .i64 a1_1]] rfl al_ ?_; (with_reducible refine (comfitref06_Circle.calls kj9 _ _ l0 a1_0 a1_1 t382 t383 t384 _ ?side1 ?side2 A67.out).mono ?_); (case side1 => exact kc_ (Kd.C_below HR0.out HB.out)); (case side2 => exact HC0.out); rintro e w167 ⟨rfl, hb⟩; refine ⟨_, rfl, ?_⟩; have n0_ := Aside0.mk (bkb_ BK358.out hb); have n1_ := Aside0.mk (bkb_ BK359.out hb); have n2_ := Aside0.mk (bkb_ BK371.out hb); have n3_ := Aside0.mk (below_step (hb_ HB.out) hb); clear BK358; clear BK359; clear BK371; clear HB; have BK358 := n0_; have BK359 := n1_; have BK371 := n2_; have HB := n3_; clear n0_ n1_ n2_ n3_; (try clear hb); (try clear hb2); (try clear hk); (try clear hi)) | ((with_reducible refine gate_dst (N := 15) rfl ?_); refine box_event ?hg (N := 15) ?hd (cs := #[.int .i64 0, .int .i64 0]) (t := 23) ?hr ?_; (case hd => rfl); (case hg => rfl); (case hr => first | (go_simp; done) | (go_simp; rfl)); intro gb385 hg w168 hbox hb; have n0_ := Aside0.mk (bkb_ BK358.out hb); have n1_ := Aside0.mk (bkb_ BK359.out hb); have n2_ := Aside0.mk (bkb_ BK371.out hb); have n3_ := Aside0.mk (below_step (hb_ HB.out) hb); have n4_ := Aside0.mk (hbox); have n5_ := Aside0.mk ((by rw [hg]; exact (below_size (hb_ HB.out)) : w.heap.size ≤ gb385)); have n6_ := Aside0.mk ((by rw [hg]; exact (below_size (hb_ HB.out)) : w.heap.size ≤ gb385)); have n7_ := Aside0.mk ((by rw [hg]; exact Nat.ne_of_lt (bkl_ BK358.out) : gb358 ≠ gb385)); have n8_ := Aside0.mk ((by rw [hg]; exact Nat.ne_of_gt (bkl_ BK358.out) : gb385 ≠ gb358)); have n9_ := Aside0.mk ((by rw [hg]; exact Nat.ne_of_lt (bkl_ BK359.out) : gb359 ≠ gb385)); have n10_ := Aside0.mk ((by rw [hg]; exact Nat.ne_of_gt (bkl_ BK359.out) : gb385 ≠ gb359)); have n11_ := Aside0.mk ((by rw [hg]; exact Nat.ne_of_lt (bkl_ BK371.out) : gb371 ≠ gb385)); have n12_ := Aside0.mk ((by rw [hg]; exact Nat.ne_of_gt (bkl_ BK371.out) : gb385 ≠ gb371)); clear BK358; clear BK359; clear BK371; clear HB; have BK358 := n0_; have BK359 := n1_; have BK371 := n2_; have HB := n3_; have BK385 := n4_; have GW385 := n5_; have GE385 := n6_; have NB358_385 := n7_; have NB385_358 := n8_; have NB359_385 := n9_; have NB385_359 := n10_; have NB371_385 := n11_; have NB385_371 := n12_; clear n0_ n1_ n2_ n3_ n4_ n5_ n6_ n7_ n8_ n9_ n10_ n11_ n12_; clear hb hbox hg; have hnb169 := NB385_358.out; have hnc169 := NB358_385.out; have hnb170 := NB385_359.out; have hnc170 := NB359_385.out; have hnb171 := NB385_371.out; have hnc171 := NB371_385.out; have hcz172_0 : w168.cell? ⟨gb385, 0, none⟩ = some (.int .i64 0) := (blk_cell BK385.out 0).trans rfl; have hcz172_1 : w168.cell? ⟨gb385, 1, none⟩ = some (.int .i64 0) := (blk_cell BK385.out 1).trans rfl; have hfz172_0 := blk_frozen BK385.out 0; have hfz172_1 := blk_frozen BK385.out 1))
     go_ret
     exact ⟨by first | rfl | (simp [errW_none, errW_some] <;> rfl) | (simp [*, errW_none, errW_some] <;> rfl), by repeat (first | (with_reducible first | exact HB.out | apply below_alloc | apply pw_below_drewN | apply below_drew1 | refine below_set ?_ GE358.out | refine below_set ?_ GE359.out | refine below_set ?_ GE371.out | refine below_set ?_ GE385.out) | exact HB.out)⟩

end Go.Proofs.Ytjmbjnobbeflfaa.X
