/- Written by a program of this session (wip/tools/xprint.py, which calls the kit's print): Go functions as Lean functions, and for each the proof that the machine's call does what it says; no conditions but those that each theorem names. -/
import Derived.Test.YtigmhomfadimnaaQX0
import Derived.Test.YtigmhomfadimnaaQXS
import Derived.Test.YtigmhomfadimnaaQXSC
import Derived.Test.YtigmhomfadimnaaQXcomfitlaw04awake
import Derived.Test.YtigmhomfadimnaaQXcomfitlaw04list
import Derived.Test.YtigmhomfadimnaaQXcomfitref04Enough
import Derived.Test.YtigmhomfadimnaaQXpacketsEnough
namespace Go.Proofs.Ytigmhomfadimnaa.X
open Go.RowKit Go.Proofs.YtigmhomfadimnaaW.PrintWords Go.Proofs.YtigmhomfadimnaaW.PrintLast Go.Proofs.YtigmhomfadimnaaW.PrintMore
attribute [local go_sem] max2_int min2_int max_two min_two max_three min_three max_four min_four   -- for this text's walks alone
set_option linter.unusedVariables false
set_option linter.unusedSimpArgs false

/-! ### comfitlaw04_PacketsEnough: function 13 -/
def comfitlaw04_PacketsEnough.j0 : Nat → List Int → Int → Int → Int → Bool → Int → Int → Option (Bool)
 | 0, _, _, _, _, _, _, _ => none
 | k + 1, x0, x1, x7, x8, x27, x563000, x563001 => if x27 = true then (if x7 = 0 then (if x8 = 2 then ((comfitlaw04_awake.f k).bind fun t570 => (some t570)) else (some false)) else (some false)) else ((comfitref04_Enough.f k x0 x1 x563000 x563001).bind fun bt571 => (if x7 = bt571.1 then (if x8 = bt571.2 then ((comfitlaw04_awake.f k).bind fun t573 => (some t573)) else (some false)) else (some false)))
def comfitlaw04_PacketsEnough.f (k : Nat) (l0 : List Int) (a1 : Int) (a2_0 : Int) (a2_1 : Int) : Option (Bool) := (comfitlaw04_list.f l0).bind fun t563 => ((packets_Enough.f k t563 a1 a2_0 a2_1).bind fun bt566 => ((comfitref04_Set.f k l0 a1).bind fun t568 => (if t568 = true then ((comfitref04_Chance.f k a2_0 a2_1).bind fun t569 => (comfitlaw04_PacketsEnough.j0 k l0 a1 bt566.1 bt566.2 (!t569) a2_0 a2_1)) else (comfitlaw04_PacketsEnough.j0 k l0 a1 bt566.1 bt566.2 true a2_0 a2_1))))
def comfitlaw04_PacketsEnough.T1 : Bool × List (List Nat × List Nat) := (true, [([], []), ([0], [0]), ([], []), ([], []), ([1, 2, 3, 1], [1, 2, 3]), ([4], [4]), ([5], [5]), ([5], [5]), ([6, 4, 0, 1, 2, 3, 4, 5, 6], [6]), ([7, 8, 0, 1, 2, 3, 4, 5, 6, 7, 8], [7])])
def comfitlaw04_PacketsEnough.B1 : List Nat := [0, 1, 0, 0, 15, 31, 63, 63, 127, 511]
theorem comfitlaw04_PacketsEnough.tab1 : rtab .any (opsOf Try.f13 1) = comfitlaw04_PacketsEnough.T1 := by kernel_rfl
theorem comfitlaw04_PacketsEnough.bits1 : waitsOk comfitlaw04_PacketsEnough.T1.2 comfitlaw04_PacketsEnough.B1 = true := by kernel_rfl
set_option maxHeartbeats 8000000 in
set_option maxRecDepth 100000 in
theorem comfitlaw04_PacketsEnough.calls (k : Nat) (A0 : Option Addr) (c0 : Nat) (l0 : List Int) (a1 : Int) (a2_0 : Int) (a2_1 : Int) (r : Bool) (w : World) (hr0 : Kd.C (Kd.int .i64) w A0 l0.length l0) (hc0 : l0.length ≤ c0) (h : comfitlaw04_PacketsEnough.f k l0 a1 a2_0 a2_1 = some r) :
  Calls Try.prog 13 #[.slice A0 l0.length c0, .int .i64 a1, .agg #[.int .i64 a2_0, .int .i64 a2_1]] w fun e w' => e = .returned (.bool r) ∧ Below w.heap.size w w' := by
 have hu25 := Try.underlying25
 have HR0 := Aside0.mk hr0
 have HC0 := Aside0.mk hc0
 clear hr0 hc0
 have HB := Aside0.mk (Below.refl w.heap.size w)
 have H : ((comfitlaw04_list.f l0).bind fun t563 => ((packets_Enough.f k t563 a1 a2_0 a2_1).bind fun bt566 => ((comfitref04_Set.f k l0 a1).bind fun t568 => (if t568 = true then ((comfitref04_Chance.f k a2_0 a2_1).bind fun t569 => (comfitlaw04_PacketsEnough.j0 k l0 a1 bt566.1 bt566.2 (!t569) a2_0 a2_1)) else (comfitlaw04_PacketsEnough.j0 k l0 a1 bt566.1 bt566.2 true a2_0 a2_1))))) = some r := h
 clear h
 replace H := Option.bind_eq_some_iff.mp H
 obtain ⟨t563, A40, H⟩ := H
 replace H : ((packets_Enough.f k t563 a1 a2_0 a2_1).bind fun bt566 => ((comfitref04_Set.f k l0 a1).bind fun t568 => (if t568 = true then ((comfitref04_Chance.f k a2_0 a2_1).bind fun t569 => (comfitlaw04_PacketsEnough.j0 k l0 a1 bt566.1 bt566.2 (!t569) a2_0 a2_1)) else (comfitlaw04_PacketsEnough.j0 k l0 a1 bt566.1 bt566.2 true a2_0 a2_1)))) = some r := H
 have A4 := Aside0.mk A40
 clear A40
 replace H := Option.bind_eq_some_iff.mp H
 obtain ⟨⟨t566, t567⟩, A50, H⟩ := H
 replace H : ((comfitref04_Set.f k l0 a1).bind fun t568 => (if t568 = true then ((comfitref04_Chance.f k a2_0 a2_1).bind fun t569 => (comfitlaw04_PacketsEnough.j0 k l0 a1 t566 t567 (!t569) a2_0 a2_1)) else (comfitlaw04_PacketsEnough.j0 k l0 a1 t566 t567 true a2_0 a2_1))) = some r := H
 have A5 := Aside0.mk A50
 clear A50
 have HC6 := Aside0.mk H
 clear H
 go_enter Try.func13, Try.ntmps13
 try go_wp2_with (first | ((with_reducible refine gate_dst (N := 5) rfl ?_); refine box_event ?hg (N := 5) ?hd (cs := #[.int .i64 a2_0, .int .i64 a2_1]) (t := 25) ?hr ?_; (case hd => rfl); (case hg => rfl); (case hr => first | (go_simp; done) | (go_simp; rfl)); intro gb562 hg w7 hbox hb; have n0_ := Aside0.mk (below_step (hb_ HB.out) hb); have n1_ := Aside0.mk (hbox); have n2_ := Aside0.mk ((by rw [hg]; exact (below_size (hb_ HB.out)) : w.heap.size ≤ gb562)); have n3_ := Aside0.mk ((by rw [hg]; exact (below_size (hb_ HB.out)) : w.heap.size ≤ gb562)); clear HB; have HB := n0_; have BK562 := n1_; have GW562 := n2_; have GE562 := n3_; clear n0_ n1_ n2_ n3_; clear hb hbox hg))
 have n0_ := Aside0.mk (blk_drew BK562.out)
 have n1_ := Aside0.mk (below_drew1 HB.out)
 clear BK562
 clear HB
 have BK562 := n0_
 have HB := n1_
 clear n0_ n1_
 refine start_ (n := 10) (S := fun w' => w'.cell? ⟨gb562, 0, none⟩ = some (.int .i64 a2_0) ∧ w'.cell? ⟨gb562, 1, none⟩ = some (.int .i64 a2_1)) (ds := []) #[false, false, false, false, false, false, false, false, false, false] (by kernel_rfl) rfl rfl ⟨(blk_cell BK562.out 0).trans rfl, (blk_cell BK562.out 1).trans rfl⟩ (fun hHeld => ?_); refine with_tabW comfitlaw04_PacketsEnough.tab1 comfitlaw04_PacketsEnough.bits1 (fun HT_ HW_ => ?_)
 generalize w7.drew = w8 at BK562 HB hHeld ⊢
 refine pure_ (i := 0) (N := some 12) (v := ?_) (a' := ?_) #[true, false, false, false, false, false, false, false, false, false] rfl rfl (any_of HT_.out (by kernel_rfl)) (fun _ _ _ h => h) (Or.inl ⟨by rfl, ?_⟩) ?_ ?_
 rotate_left
 ·intro w'
  go_simp
  with_reducible rfl
 rotate_left
 ·simp only [Act.put, List.setIfInBounds_toArray, List.set_cons_zero, List.set_cons_succ, i64_w, i32_w]
  rfl
 refine pure_ (i := 2) (N := some 14) (v := ?_) (a' := ?_) #[true, false, true, false, false, false, false, false, false, false] rfl rfl (any_of HT_.out (by kernel_rfl)) (fun _ _ _ h => h) (Or.inl ⟨by rfl, ?_⟩) ?_ ?_
 rotate_left
 ·intro w'
  go_simp
  with_reducible rfl
 rotate_left
 ·simp only [Act.put, List.setIfInBounds_toArray, List.set_cons_zero, List.set_cons_succ, i64_w, i32_w]
  rfl
 refine take_ (i := 3) (N := some 15) (v := ?_) (a' := ?_) #[true, false, true, true, false, false, false, false, false, false] rfl rfl (take_ofW HT_.out HW_.out (by kernel_rfl)) (fun _ _ _ h => h) (Or.inl ⟨by rfl, ?_⟩) hHeld ?_ ?_
 rotate_left
 ·rintro w' ⟨s0, s1⟩
  go_simp
  with_reducible rfl
 rotate_left
 ·simp only [Act.put, List.setIfInBounds_toArray, List.set_cons_zero, List.set_cons_succ, i64_w, i32_w]
  rfl
 refine one_ (i := 1) (N := some 13) #[true, true, true, true, false, false, false, false, false, false] rfl rfl (one_of HT_.out (by kernel_rfl)) (by decide) (fun K hK => ?_)
 refine goes_ Try.func22 (by kernel_rfl) rfl #[.slice A0 l0.length c0] (by rfl) rfl rfl al_ ?_
 with_reducible refine (comfitlaw04_list.calls _ _ l0 t563 _ ?side1 ?side2 A4.out).mono ?_
 (case side1 => exact kc_ (Kd.C_below HR0.out HB.out))
 (case side2 => exact HC0.out)
 rintro e w9 ⟨v564, rfl, ho0, hb⟩
 refine ⟨_, rfl, ?_⟩
 have n0_ := Aside0.mk (Kd.R_lower ho0 (below_size (hb_ HB.out)))
 have n1_ := Aside0.mk (bkb_ BK562.out hb)
 have n2_ := Aside0.mk (below_step (hb_ HB.out) hb)
 clear BK562
 clear HB
 have HO565 := n0_
 have BK562 := n1_
 have HB := n2_
 clear n0_ n1_ n2_
 (try clear hb)
 (try clear hb2)
 (try clear hk)
 (try clear hi)
 (try clear ho0)
 obtain ⟨Ao10, co10, eo10⟩ := Kd.R_slice HO565.out
 (first | subst eo10 | (injection eo10 with f1_ f2_ f3_; have f4_ := f1_.symm; have f5_ := f3_.symm; clear f1_ f2_ f3_; subst f4_; subst f5_))
 refine hK.out _ _ ⟨(blk_cell BK562.out 0).trans rfl, (blk_cell BK562.out 1).trans rfl⟩ (fun hHeld => ?_)
 clear hK K
 refine norm_ (a' := ?_) ?_ ?_
 rotate_left
 ·show Act.put _ (some 13) _ = _
  simp only [Act.put, List.setIfInBounds_toArray, List.set_cons_zero, List.set_cons_succ, i64_w, i32_w]
  rfl
 refine one_ (i := 4) (N := some 16) #[true, true, true, true, true, false, false, false, false, false] rfl rfl (one_of HT_.out (by kernel_rfl)) (by decide) (fun K hK => ?_)
 refine goes_ Try.func43 (by kernel_rfl) rfl #[.slice Ao10 t563.length co10, .int .i64 a1, .agg #[.int .i64 a2_0, .int .i64 a2_1]] (by rfl) rfl rfl al_ ?_
 with_reducible refine (packets_Enough.calls k _ _ t563 a1 a2_0 a2_1 t566 t567 _ ?side1 ?side2 A5.out).mono ?_
 (case side1 => exact kc_ (Kd.R_reads' HO565.out).2.2)
 (case side2 => exact (Kd.R_reads' HO565.out).2.1)
 rintro e w11 ⟨rfl, hb⟩
 refine ⟨_, rfl, ?_⟩
 have n0_ := Aside0.mk (Kd.R_below (kr_ (HO565.out)) hb)
 have n1_ := Aside0.mk (bkb_ BK562.out hb)
 have n2_ := Aside0.mk (below_step (hb_ HB.out) hb)
 clear HO565
 clear BK562
 clear HB
 have HO565 := n0_
 have BK562 := n1_
 have HB := n2_
 clear n0_ n1_ n2_
 (try clear hb)
 (try clear hb2)
 (try clear hk)
 (try clear hi)
 refine hK.out _ _ ⟨(blk_cell BK562.out 0).trans rfl, (blk_cell BK562.out 1).trans rfl⟩ (fun hHeld => ?_)
 clear hK K
 refine norm_ (a' := ?_) ?_ ?_
 rotate_left
 ·show Act.put _ (some 16) _ = _
  simp only [Act.put, List.setIfInBounds_toArray, List.set_cons_zero, List.set_cons_succ, i64_w, i32_w]
  rfl
 refine pure_ (i := 5) (N := some 11) (v := ?_) (a' := ?_) #[true, true, true, true, true, true, false, false, false, false] rfl rfl (any_of HT_.out (by kernel_rfl)) (fun _ _ _ h => h) (Or.inl ⟨by rfl, ?_⟩) ?_ ?_
 rotate_left
 ·intro w'
  go_simp
  with_reducible rfl
 rotate_left
 ·simp only [Act.put, List.setIfInBounds_toArray, List.set_cons_zero, List.set_cons_succ, i64_w, i32_w]
  rfl
 refine pure_ (i := 6) (N := some 17) (v := ?_) (a' := ?_) #[true, true, true, true, true, true, true, false, false, false] rfl rfl (any_of HT_.out (by kernel_rfl)) (fun _ _ _ h => h) (Or.inl ⟨by rfl, ?_⟩) ?_ ?_
 rotate_left
 ·intro w'
  go_simp
  with_reducible rfl
 rotate_left
 ·simp only [Act.put, List.setIfInBounds_toArray, List.set_cons_zero, List.set_cons_succ, i64_w, i32_w]
  rfl
 refine pure_ (i := 7) (N := some 18) (v := ?_) (a' := ?_) #[true, true, true, true, true, true, true, true, false, false] rfl rfl (any_of HT_.out (by kernel_rfl)) (fun _ _ _ h => h) (Or.inl ⟨by rfl, ?_⟩) ?_ ?_
 rotate_left
 ·intro w'
  go_simp
  with_reducible rfl
 rotate_left
 ·simp only [Act.put, List.setIfInBounds_toArray, List.set_cons_zero, List.set_cons_succ, i64_w, i32_w]
  rfl
 refine pure_ (i := 8) (N := some 7) (v := ?_) (a' := ?_) #[true, true, true, true, true, true, true, true, true, false] rfl rfl (any_of HT_.out (by kernel_rfl)) (fun _ _ _ h => h) (Or.inl ⟨by rfl, ?_⟩) ?_ ?_
 rotate_left
 ·intro w'
  go_simp
  with_reducible rfl
 rotate_left
 ·simp only [Act.put, List.setIfInBounds_toArray, List.set_cons_zero, List.set_cons_succ, i64_w, i32_w]
  rfl
 refine pure_ (i := 9) (N := some 8) (v := ?_) (a' := ?_) #[true, true, true, true, true, true, true, true, true, true] rfl rfl (any_of HT_.out (by kernel_rfl)) (fun _ _ _ h => h) (Or.inl ⟨by rfl, ?_⟩) ?_ ?_
 rotate_left
 ·intro w'
  go_simp
  with_reducible rfl
 rotate_left
 ·simp only [Act.put, List.setIfInBounds_toArray, List.set_cons_zero, List.set_cons_succ, i64_w, i32_w]
  rfl
 refine done_ (done_of HT_.out (by kernel_rfl)) ?_
 go_upto_region 2 with (fail)
 go_cut [27] (fun v27 wc => ∃ (kq : Nat) (x27_5 : Bool), v27 = .bool x27_5 ∧ Aside0 (comfitlaw04_PacketsEnough.j0 kq l0 a1 t566 t567 x27_5 a2_0 a2_1 = some r) ∧ Aside0 (kq ≤ k) ∧ Aside0 (wc.heap[gb562]? = some (.cells #[.int .i64 a2_0, .int .i64 a2_1] 25 (0, 0))) ∧ Aside0 (Below w.heap.size w wc))
 case first =>
  have H := HC6.out
  clear HC6
  replace H := Option.bind_eq_some_iff.mp H
  obtain ⟨t568, A120, H⟩ := H
  replace H : (if t568 = true then ((comfitref04_Chance.f k a2_0 a2_1).bind fun t569 => (comfitlaw04_PacketsEnough.j0 k l0 a1 t566 t567 (!t569) a2_0 a2_1)) else (comfitlaw04_PacketsEnough.j0 k l0 a1 t566 t567 true a2_0 a2_1)) = some r := H
  have A12 := Aside0.mk A120
  clear A120
  by_cases c13 : t568 = true
  ·subst c13
   have H1 : ((comfitref04_Chance.f k a2_0 a2_1).bind fun t569 => (comfitlaw04_PacketsEnough.j0 k l0 a1 t566 t567 (!t569) a2_0 a2_1)) = some r := by rw [if_pos rfl] at H; exact H
   clear H
   have H := H1
   clear H1
   replace H := Option.bind_eq_some_iff.mp H
   obtain ⟨t569, A140, H⟩ := H
   replace H : (comfitlaw04_PacketsEnough.j0 k l0 a1 t566 t567 (!t569) a2_0 a2_1) = some r := H
   have A14 := Aside0.mk A140
   clear A140
   have H' := Aside0.mk H
   clear H
   go_wp2_with (first | ((with_reducible refine gate_callee (f := 21) rfl ?_); refine goesL_ (some 21) rfl rfl Try.func21 (by kernel_rfl) rfl #[.slice A0 l0.length c0, .int .i64 a1] rfl al_ ?_; (with_reducible refine (comfitref04_Set.calls k _ _ l0 a1 true _ ?side1 ?side2 A12.out).mono ?_); (case side1 => exact kc_ (Kd.C_below HR0.out HB.out)); (case side2 => exact HC0.out); rintro e w' ⟨rfl, ⟨nd, rfl⟩⟩; refine ⟨_, rfl, ?_⟩; have hcz15_0 : w11.cell? ⟨gb562, 0, none⟩ = some (.int .i64 a2_0) := (blk_cell BK562.out 0).trans rfl; have hcz15_1 : w11.cell? ⟨gb562, 1, none⟩ = some (.int .i64 a2_1) := (blk_cell BK562.out 1).trans rfl; have hfz15_0 := blk_frozen BK562.out 0; have hfz15_1 := blk_frozen BK562.out 1) | (go_at_call 44; (with_reducible refine (comfitref04_Chance.calls k a2_0 a2_1 t569 _ A14.out).mono ?_); rintro e w16 ⟨rfl, hb⟩; have n0_ := Aside0.mk (Kd.R_below (kr_ (HO565.out)) hb); have n1_ := Aside0.mk (bkb_ BK562.out hb); have n2_ := Aside0.mk (below_step (hb_ HB.out) hb); clear HO565; clear BK562; clear HB; have HO565 := n0_; have BK562 := n1_; have HB := n2_; clear n0_ n1_ n2_; (try clear hb); (try clear hb2); (try clear hk); (try clear hi)))
   go_meet
   case rel => exact ⟨_, (!t569), (by first | rfl | (simp; done) | (simp [*]; done)), H', ⟨by first | omega | exact Nat.le_refl _⟩, ⟨by (with_reducible repeat (first | refine blk_drewN ?_ _ | refine blk_drew ?_ | refine blk_alloc ?_ _)); exact BK562.out⟩, ⟨by repeat (first | (with_reducible first | exact HB.out | apply below_alloc | apply pw_below_drewN | apply below_drew1 | refine below_set ?_ GE562.out) | exact HB.out)⟩⟩
  ·replace c13 := Bool.eq_false_iff.mpr c13
   subst c13
   have H1 : (comfitlaw04_PacketsEnough.j0 k l0 a1 t566 t567 true a2_0 a2_1) = some r := by rw [if_neg (show ¬ (false = true) by decide)] at H; exact H
   clear H
   have H := H1
   clear H1
   have H' := Aside0.mk H
   clear H
   go_wp2_with (first | ((with_reducible refine gate_callee (f := 21) rfl ?_); refine goesL_ (some 21) rfl rfl Try.func21 (by kernel_rfl) rfl #[.slice A0 l0.length c0, .int .i64 a1] rfl al_ ?_; (with_reducible refine (comfitref04_Set.calls k _ _ l0 a1 false _ ?side1 ?side2 A12.out).mono ?_); (case side1 => exact kc_ (Kd.C_below HR0.out HB.out)); (case side2 => exact HC0.out); rintro e w' ⟨rfl, ⟨nd, rfl⟩⟩; refine ⟨_, rfl, ?_⟩))
   go_meet
   case rel => exact ⟨_, (true), (by first | rfl | (simp; done) | (simp [*]; done)), H', ⟨by first | omega | exact Nat.le_refl _⟩, ⟨by (with_reducible repeat (first | refine blk_drewN ?_ _ | refine blk_drew ?_ | refine blk_alloc ?_ _)); exact BK562.out⟩, ⟨by repeat (first | (with_reducible first | exact HB.out | apply below_alloc | apply pw_below_drewN | apply below_drew1 | refine below_set ?_ GE562.out) | exact HB.out)⟩⟩
 case rest =>
  clear HC6
  try clear c1
  try clear c2
  try clear p2
  try clear c4
  try clear c13
  try clear hcz15_0
  try clear hcz15_1
  try clear hfz15_0
  try clear hfz15_1
  obtain ⟨kq, x27_5, rfl, HA, HJ5, BK562, HB⟩ := hcut
  cases kq with
  | zero => exact absurd HA.out (by simp [comfitlaw04_PacketsEnough.j0])
  | succ kj5 =>
   have H := HA.out
   clear HA
   simp only [comfitlaw04_PacketsEnough.j0] at H
   by_cases c17 : x27_5 = true
   ·subst c17
    have H1 : (if t566 = 0 then (if t567 = 2 then ((comfitlaw04_awake.f kj5).bind fun t570 => (some t570)) else (some false)) else (some false)) = some r := by rw [if_pos rfl] at H; exact H
    clear H
    have H := H1
    clear H1
    by_cases c18 : t566 = 0
    ·rw [if_pos c18] at H
     have c18b0 : (t566 == 0) = true := beq_iff_eq.mpr c18
     have c18b1 : (t566 != 0) = false := bne_eq_false_iff_eq.mpr c18
     clear c18
     by_cases c19 : t567 = 2
     ·rw [if_pos c19] at H
      have c19b0 : (t567 == 2) = true := beq_iff_eq.mpr c19
      have c19b1 : (t567 != 2) = false := bne_eq_false_iff_eq.mpr c19
      clear c19
      replace H := Option.bind_eq_some_iff.mp H
      obtain ⟨t570, A200, H⟩ := H
      replace H : (some t570) = some r := H
      have A20 := Aside0.mk A200
      clear A200
      obtain rfl := Option.some.inj H
      go_wp2_with (first | (go_at_call 20; (with_reducible refine (comfitlaw04_awake.calls kj5  t570 _ A20.out).mono ?_); rintro e w21 ⟨rfl, hb⟩; have n0_ := Aside0.mk (bkb_ BK562.out hb); have n1_ := Aside0.mk (below_step (hb_ HB.out) hb); clear BK562; clear HB; have BK562 := n0_; have HB := n1_; clear n0_ n1_; (try clear hb); (try clear hb2); (try clear hk); (try clear hi)))
      go_ret
      exact ⟨by first | rfl | (simp [errW_none, errW_some] <;> rfl) | (simp [*, errW_none, errW_some] <;> rfl), by repeat (first | (with_reducible first | exact HB.out | apply below_alloc | apply pw_below_drewN | apply below_drew1 | refine below_set ?_ GE562.out) | exact HB.out)⟩
     ·rw [if_neg c19] at H
      have c19b0 : (t567 == 2) = false := beq_eq_false_iff_ne.mpr c19
      have c19b1 : (t567 != 2) = true := bne_iff_ne.mpr c19
      obtain rfl := Option.some.inj H
      go_wp2
      go_ret
      exact ⟨by first | rfl | (simp [errW_none, errW_some] <;> rfl) | (simp [*, errW_none, errW_some] <;> rfl), by repeat (first | (with_reducible first | exact HB.out | apply below_alloc | apply pw_below_drewN | apply below_drew1 | refine below_set ?_ GE562.out) | exact HB.out)⟩
    ·rw [if_neg c18] at H
     have c18b0 : (t566 == 0) = false := beq_eq_false_iff_ne.mpr c18
     have c18b1 : (t566 != 0) = true := bne_iff_ne.mpr c18
     obtain rfl := Option.some.inj H
     go_wp2
     go_ret
     exact ⟨by first | rfl | (simp [errW_none, errW_some] <;> rfl) | (simp [*, errW_none, errW_some] <;> rfl), by repeat (first | (with_reducible first | exact HB.out | apply below_alloc | apply pw_below_drewN | apply below_drew1 | refine below_set ?_ GE562.out) | exact HB.out)⟩
   ·replace c17 := Bool.eq_false_iff.mpr c17
    subst c17
    have H1 : ((comfitref04_Enough.f kj5 l0 a1 a2_0 a2_1).bind fun bt571 => (if t566 = bt571.1 then (if t567 = bt571.2 then ((comfitlaw04_awake.f kj5).bind fun t573 => (some t573)) else (some false)) else (some false))) = some r := by rw [if_neg (show ¬ (false = true) by decide)] at H; exact H
    clear H
    have H := H1
    clear H1
    replace H := Option.bind_eq_some_iff.mp H
    obtain ⟨⟨t571, t572⟩, A220, H⟩ := H
    replace H : (if t566 = t571 then (if t567 = t572 then ((comfitlaw04_awake.f kj5).bind fun t573 => (some t573)) else (some false)) else (some false)) = some r := H
    have A22 := Aside0.mk A220
    clear A220
    by_cases c23 : t566 = t571
    ·rw [if_pos c23] at H
     have c23b0 : (t566 == t571) = true := beq_iff_eq.mpr c23
     have c23b1 : (t566 != t571) = false := bne_eq_false_iff_eq.mpr c23
     clear c23
     by_cases c24 : t567 = t572
     ·rw [if_pos c24] at H
      have c24b0 : (t567 == t572) = true := beq_iff_eq.mpr c24
      have c24b1 : (t567 != t572) = false := bne_eq_false_iff_eq.mpr c24
      clear c24
      replace H := Option.bind_eq_some_iff.mp H
      obtain ⟨t573, A250, H⟩ := H
      replace H : (some t573) = some r := H
      have A25 := Aside0.mk A250
      clear A250
      obtain rfl := Option.some.inj H
      have hcz26_0 : wc.cell? ⟨gb562, 0, none⟩ = some (.int .i64 a2_0) := (blk_cell BK562.out 0).trans rfl
      have hcz26_1 : wc.cell? ⟨gb562, 1, none⟩ = some (.int .i64 a2_1) := (blk_cell BK562.out 1).trans rfl
      have hfz26_0 := blk_frozen BK562.out 0
      have hfz26_1 := blk_frozen BK562.out 1
      go_wp2_with (first | ((with_reducible refine gate_callee (f := 45) rfl ?_); refine goesL_ (some 41) rfl rfl Try.func45 (by kernel_rfl) rfl #[.slice A0 l0.length c0, .int .i64 a1, .agg #[.int .i64 a2_0, .int .i64 a2_1]] rfl al_ ?_; (with_reducible refine (comfitref04_Enough.calls kj5 _ _ l0 a1 a2_0 a2_1 t571 t572 _ ?side1 ?side2 A22.out).mono ?_); (case side1 => exact kc_ (Kd.C_below HR0.out HB.out)); (case side2 => exact HC0.out); rintro e w27 ⟨rfl, hb⟩; refine ⟨_, rfl, ?_⟩; have n0_ := Aside0.mk (bkb_ BK562.out hb); have n1_ := Aside0.mk (below_step (hb_ HB.out) hb); clear BK562; clear HB; have BK562 := n0_; have HB := n1_; clear n0_ n1_; (try clear hb); (try clear hb2); (try clear hk); (try clear hi)) | (go_at_call 20; (with_reducible refine (comfitlaw04_awake.calls kj5  t573 _ A25.out).mono ?_); rintro e w28 ⟨rfl, hb⟩; have n0_ := Aside0.mk (bkb_ BK562.out hb); have n1_ := Aside0.mk (below_step (hb_ HB.out) hb); clear BK562; clear HB; have BK562 := n0_; have HB := n1_; clear n0_ n1_; (try clear hb); (try clear hb2); (try clear hk); (try clear hi)))
      go_ret
      exact ⟨by first | rfl | (simp [errW_none, errW_some] <;> rfl) | (simp [*, errW_none, errW_some] <;> rfl), by repeat (first | (with_reducible first | exact HB.out | apply below_alloc | apply pw_below_drewN | apply below_drew1 | refine below_set ?_ GE562.out) | exact HB.out)⟩
     ·rw [if_neg c24] at H
      have c24b0 : (t567 == t572) = false := beq_eq_false_iff_ne.mpr c24
      have c24b1 : (t567 != t572) = true := bne_iff_ne.mpr c24
      obtain rfl := Option.some.inj H
      have hcz29_0 : wc.cell? ⟨gb562, 0, none⟩ = some (.int .i64 a2_0) := (blk_cell BK562.out 0).trans rfl
      have hcz29_1 : wc.cell? ⟨gb562, 1, none⟩ = some (.int .i64 a2_1) := (blk_cell BK562.out 1).trans rfl
      have hfz29_0 := blk_frozen BK562.out 0
      have hfz29_1 := blk_frozen BK562.out 1
      go_wp2_with (first | ((with_reducible refine gate_callee (f := 45) rfl ?_); refine goesL_ (some 41) rfl rfl Try.func45 (by kernel_rfl) rfl #[.slice A0 l0.length c0, .int .i64 a1, .agg #[.int .i64 a2_0, .int .i64 a2_1]] rfl al_ ?_; (with_reducible refine (comfitref04_Enough.calls kj5 _ _ l0 a1 a2_0 a2_1 t571 t572 _ ?side1 ?side2 A22.out).mono ?_); (case side1 => exact kc_ (Kd.C_below HR0.out HB.out)); (case side2 => exact HC0.out); rintro e w30 ⟨rfl, hb⟩; refine ⟨_, rfl, ?_⟩; have n0_ := Aside0.mk (bkb_ BK562.out hb); have n1_ := Aside0.mk (below_step (hb_ HB.out) hb); clear BK562; clear HB; have BK562 := n0_; have HB := n1_; clear n0_ n1_; (try clear hb); (try clear hb2); (try clear hk); (try clear hi)))
      go_ret
      exact ⟨by first | rfl | (simp [errW_none, errW_some] <;> rfl) | (simp [*, errW_none, errW_some] <;> rfl), by repeat (first | (with_reducible first | exact HB.out | apply below_alloc | apply pw_below_drewN | apply below_drew1 | refine below_set ?_ GE562.out) | exact HB.out)⟩
    ·rw [if_neg c23] at H
     have c23b0 : (t566 == t571) = false := beq_eq_false_iff_ne.mpr c23
     have c23b1 : (t566 != t571) = true := bne_iff_ne.mpr c23
     obtain rfl := Option.some.inj H
     have hcz31_0 : wc.cell? ⟨gb562, 0, none⟩ = some (.int .i64 a2_0) := (blk_cell BK562.out 0).trans rfl
     have hcz31_1 : wc.cell? ⟨gb562, 1, none⟩ = some (.int .i64 a2_1) := (blk_cell BK562.out 1).trans rfl
     have hfz31_0 := blk_frozen BK562.out 0
     have hfz31_1 := blk_frozen BK562.out 1
     go_wp2_with (first | ((with_reducible refine gate_callee (f := 45) rfl ?_); refine goesL_ (some 41) rfl rfl Try.func45 (by kernel_rfl) rfl #[.slice A0 l0.length c0, .int .i64 a1, .agg #[.int .i64 a2_0, .int .i64 a2_1]] rfl al_ ?_; (with_reducible refine (comfitref04_Enough.calls kj5 _ _ l0 a1 a2_0 a2_1 t571 t572 _ ?side1 ?side2 A22.out).mono ?_); (case side1 => exact kc_ (Kd.C_below HR0.out HB.out)); (case side2 => exact HC0.out); rintro e w32 ⟨rfl, hb⟩; refine ⟨_, rfl, ?_⟩; have n0_ := Aside0.mk (bkb_ BK562.out hb); have n1_ := Aside0.mk (below_step (hb_ HB.out) hb); clear BK562; clear HB; have BK562 := n0_; have HB := n1_; clear n0_ n1_; (try clear hb); (try clear hb2); (try clear hk); (try clear hi)))
     go_ret
     exact ⟨by first | rfl | (simp [errW_none, errW_some] <;> rfl) | (simp [*, errW_none, errW_some] <;> rfl), by repeat (first | (with_reducible first | exact HB.out | apply below_alloc | apply pw_below_drewN | apply below_drew1 | refine below_set ?_ GE562.out) | exact HB.out)⟩

end Go.Proofs.Ytigmhomfadimnaa.X
