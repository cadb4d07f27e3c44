/- Written by a program of this session (wip/tools/xprint.py, which calls the kit's print): Go functions as Lean functions, and for each the proof that the machine's call does what it says; no conditions but those that each theorem names. -/
import Derived.Test.YtdppnmfljfdhaaaX0
import Derived.Test.YtdppnmfljfdhaaaXLO
import Derived.Test.YtdppnmfljfdhaaaXR
import Derived.Test.YtdppnmfljfdhaaaXS
import Derived.Test.YtdppnmfljfdhaaaXcomfitlaw02awake
import Derived.Test.YtdppnmfljfdhaaaXcomfitref02Run
import Derived.Test.YtdppnmfljfdhaaaXlotsRun
namespace Go.Proofs.Ytdppnmfljfdhaaa.X
open Go.RowKit Go.Proofs.YtdppnmfljfdhaaaW.PrintWords Go.Proofs.YtdppnmfljfdhaaaW.PrintLast Go.Proofs.YtdppnmfljfdhaaaW.PrintMore
attribute [local go_sem] max2_int min2_int max_two min_two max_three min_three max_four min_four   -- for this text's walks alone
set_option linter.unusedVariables false
set_option linter.unusedSimpArgs false

/-! ### comfitlaw02_LotsRuns: function 6 -/
def comfitlaw02_LotsRuns.j0 : Nat → List Bool → Int → Bool → Int → Bool → List Int → List Int → Option (Bool)
 | 0, _, _, _, _, _, _, _ => none
 | k + 1, x1, x5, x6, x7, x33, x285000, x285001 => if x33 = true then (if x5 = 0 then (if x6 = true then (some false) else (if x7 = 2 then ((comfitlaw02_awake.f k).bind fun t299 => (some t299)) else (some false))) else (some false)) else ((comfitref02_Run.f k x285000 x285001 x1).bind fun bt300 => (if x5 = bt300.1 then (if (x6 == bt300.2) = true then (if x7 = 0 then ((comfitlaw02_awake.f k).bind fun t302 => (some t302)) else (some false)) else (some false)) else (some false)))
def comfitlaw02_LotsRuns.f (k : Nat) (l0_0 : List Int) (l0_1 : List Int) (l1 : List Bool) : Option (Bool) := (comfitlaw02_Of.f l0_0 l0_1).bind fun bt285 => (if 0 ≤ (mn (l1.length : Int) 15) then (if (mn (l1.length : Int) 15) ≤ (l1.length : Int) then ((slices_Clone_bool_bool.f (l1.take ((mn (l1.length : Int) 15) : Int).toNat)).bind fun t292 => ((lots_Run.f k bt285.1 bt285.2 t292).bind fun bt295 => ((comfitref02_Valid.f k l0_0 l0_1).bind fun t298 => (if t298 = true then (comfitlaw02_LotsRuns.j0 k l1 bt295.1 bt295.2.1 bt295.2.2 ((l1.length : Int) != (l0_0.length : Int)) l0_0 l0_1) else (comfitlaw02_LotsRuns.j0 k l1 bt295.1 bt295.2.1 bt295.2.2 true l0_0 l0_1))))) else (none)) else (none))
theorem comfitlaw02_LotsRuns.mono_l : ∀ k, (∀ y0 y1 y2 y3 y4 y5 y6, LeO (comfitlaw02_LotsRuns.j0 k y0 y1 y2 y3 y4 y5 y6) (comfitlaw02_LotsRuns.j0 (k + 1) y0 y1 y2 y3 y4 y5 y6))
 | 0 => fun _ _ _ _ _ _ _ r h => by simp [comfitlaw02_LotsRuns.j0] at h
 | k + 1 => by
  have ih0 := comfitlaw02_LotsRuns.mono_l k
  ·intro y0 y1 y2 y3 y4 y5 y6
   unfold comfitlaw02_LotsRuns.j0
   repeat' first
   | (with_reducible exact ih0 _ _ _ _ _ _ _)
   | (with_reducible exact comfitlaw02_awake.mono _)
   | (with_reducible exact comfitref02_Run.mono _ _ _ _)
   | (with_reducible exact comfitref02_Valid.mono _ _ _)
   | (with_reducible exact lots_Run.mono _ _ _ _)
   | (with_reducible exact LeO.refl _)
   | (with_reducible exact LeO.none _)
   | (with_reducible refine LeO.ite ?_ ?_)
   | (with_reducible refine LeO.bind ?_ (fun _ => ?_))
   | exact ih0 _ _ _ _ _ _ _
   | exact comfitlaw02_awake.mono _
   | exact comfitref02_Run.mono _ _ _ _
   | exact comfitref02_Valid.mono _ _ _
   | exact lots_Run.mono _ _ _ _
   | exact LeO.none _
   | refine LeO.ite ?_ ?_
   | refine LeO.bind ?_ (fun _ => ?_)
theorem comfitlaw02_LotsRuns.mono : ∀ a0 a1 a2 k, LeO (comfitlaw02_LotsRuns.f k a0 a1 a2) (comfitlaw02_LotsRuns.f (k + 1) a0 a1 a2) := by
 intro a0 a1 a2 k
 have ih0 := comfitlaw02_LotsRuns.mono_l k
 unfold comfitlaw02_LotsRuns.f
 repeat' first
   | (with_reducible exact ih0 _ _ _ _ _ _ _)
   | (with_reducible exact comfitlaw02_awake.mono _)
   | (with_reducible exact comfitref02_Run.mono _ _ _ _)
   | (with_reducible exact comfitref02_Valid.mono _ _ _)
   | (with_reducible exact lots_Run.mono _ _ _ _)
   | (with_reducible exact LeO.refl _)
   | (with_reducible exact LeO.none _)
   | (with_reducible refine LeO.ite ?_ ?_)
   | (with_reducible refine LeO.bind ?_ (fun _ => ?_))
   | exact ih0 _ _ _ _ _ _ _
   | exact comfitlaw02_awake.mono _
   | exact comfitref02_Run.mono _ _ _ _
   | exact comfitref02_Valid.mono _ _ _
   | exact lots_Run.mono _ _ _ _
   | exact LeO.none _
   | refine LeO.ite ?_ ?_
   | refine LeO.bind ?_ (fun _ => ?_)
def comfitlaw02_LotsRuns.T1 : Bool × List (List Nat × List Nat) := (true, [([], []), ([0], [0]), ([], []), ([], []), ([3], [3]), ([4], [4]), ([2, 5], [2, 5]), ([6, 1], [6]), ([1, 7, 7], [1, 7]), ([8], [8]), ([9], [9]), ([9], [9]), ([9], [9]), ([10, 8, 0, 1, 2, 3, 4, 5, 6, 7, 8, 9, 10], [10]), ([11, 13, 0, 1, 2, 3, 4, 5, 6, 7, 8, 9, 10, 11, 13], [11]), ([12, 14, 0, 1, 2, 3, 4, 5, 6, 7, 8, 9, 10, 11, 12, 13, 14], [12])])
def comfitlaw02_LotsRuns.B1 : List Nat := [0, 1, 0, 0, 8, 24, 60, 127, 255, 511, 1023, 1023, 1023, 2047, 12287, 32767]
theorem comfitlaw02_LotsRuns.tab1 : rtab .any (opsOf Try.f6 1) = comfitlaw02_LotsRuns.T1 := by kernel_rfl
theorem comfitlaw02_LotsRuns.bits1 : waitsOk comfitlaw02_LotsRuns.T1.2 comfitlaw02_LotsRuns.B1 = true := by kernel_rfl
set_option maxHeartbeats 8000000 in
set_option maxRecDepth 100000 in
theorem comfitlaw02_LotsRuns.calls (k : Nat) (A0_0 : Option Addr) (c0_0 : Nat) (l0_0 : List Int) (A0_1 : Option Addr) (c0_1 : Nat) (l0_1 : List Int) (A1 : Option Addr) (c1 : Nat) (l1 : List Bool) (r : Bool) (w : World) (hr0_0 : Kd.C (Kd.int .i64) w A0_0 l0_0.length l0_0) (hc0_0 : l0_0.length ≤ c0_0) (hr0_1 : Kd.C (Kd.int .i64) w A0_1 l0_1.length l0_1) (hc0_1 : l0_1.length ≤ c0_1) (hr1 : Kd.C Kd.bool w A1 l1.length l1) (hc1 : l1.length ≤ c1) (h : comfitlaw02_LotsRuns.f k l0_0 l0_1 l1 = some r) :
  Calls Try.prog 6 #[.agg #[.slice A0_0 l0_0.length c0_0, .slice A0_1 l0_1.length c0_1], .slice A1 l1.length c1] w fun e w' => e = .returned (.bool r) ∧ Below w.heap.size w w' := by
 have hu24 := Try.underlying24
 have HR0_0 := Aside0.mk hr0_0
 have HC0_0 := Aside0.mk hc0_0
 clear hr0_0 hc0_0
 have HR0_1 := Aside0.mk hr0_1
 have HC0_1 := Aside0.mk hc0_1
 clear hr0_1 hc0_1
 have HR1 := Aside0.mk hr1
 have HC1 := Aside0.mk hc1
 clear hr1 hc1
 have HB := Aside0.mk (Below.refl w.heap.size w)
 have H : ((comfitlaw02_Of.f l0_0 l0_1).bind fun bt285 => (if 0 ≤ (mn (l1.length : Int) 15) then (if (mn (l1.length : Int) 15) ≤ (l1.length : Int) then ((slices_Clone_bool_bool.f (l1.take ((mn (l1.length : Int) 15) : Int).toNat)).bind fun t292 => ((lots_Run.f k bt285.1 bt285.2 t292).bind fun bt295 => ((comfitref02_Valid.f k l0_0 l0_1).bind fun t298 => (if t298 = true then (comfitlaw02_LotsRuns.j0 k l1 bt295.1 bt295.2.1 bt295.2.2 ((l1.length : Int) != (l0_0.length : Int)) l0_0 l0_1) else (comfitlaw02_LotsRuns.j0 k l1 bt295.1 bt295.2.1 bt295.2.2 true l0_0 l0_1))))) else (none)) else (none))) = some r := h
 clear h
 replace H := Option.bind_eq_some_iff.mp H
 obtain ⟨⟨t285, t288⟩, A30, H⟩ := H
 replace H : (if 0 ≤ (mn (l1.length : Int) 15) then (if (mn (l1.length : Int) 15) ≤ (l1.length : Int) then ((slices_Clone_bool_bool.f (l1.take ((mn (l1.length : Int) 15) : Int).toNat)).bind fun t292 => ((lots_Run.f k t285 t288 t292).bind fun bt295 => ((comfitref02_Valid.f k l0_0 l0_1).bind fun t298 => (if t298 = true then (comfitlaw02_LotsRuns.j0 k l1 bt295.1 bt295.2.1 bt295.2.2 ((l1.length : Int) != (l0_0.length : Int)) l0_0 l0_1) else (comfitlaw02_LotsRuns.j0 k l1 bt295.1 bt295.2.1 bt295.2.2 true l0_0 l0_1))))) else (none)) else (none)) = some r := H
 have A3 := Aside0.mk A30
 clear A30
 obtain ⟨ji4, hji4⟩ : ∃ j_ : Int, (mn (l1.length : Int) 15) = j_ := ⟨_, rfl⟩
 replace H : (if 0 ≤ (ji4) then (if (ji4) ≤ (l1.length : Int) then ((slices_Clone_bool_bool.f (l1.take ((ji4) : Int).toNat)).bind fun t292 => ((lots_Run.f k t285 t288 t292).bind fun bt295 => ((comfitref02_Valid.f k l0_0 l0_1).bind fun t298 => (if t298 = true then (comfitlaw02_LotsRuns.j0 k l1 bt295.1 bt295.2.1 bt295.2.2 ((l1.length : Int) != (l0_0.length : Int)) l0_0 l0_1) else (comfitlaw02_LotsRuns.j0 k l1 bt295.1 bt295.2.1 bt295.2.2 true l0_0 l0_1))))) else (none)) else (none)) = some r := by first | (rw [hji4] at H; exact H) | (simp only [hji4] at H ⊢; exact H)
 (try rw [hji4] at A3)
 (try (have hji4h : ji4 ≤ 15 := by (rw [← hji4]; unfold mn; (repeat' split) <;> omega)))
 (try (have hji4g : ji4 ≤ 64 := by omega))
 (try (have hji4l : 0 ≤ ji4 := by (rw [← hji4]; unfold mn; (repeat' split) <;> omega)))
 (try (have hji4m : 0 ≤ ji4 := by omega))
 have hji4_ : (if 15 < (l1.length : Int) then 15 else (l1.length : Int)) = ji4 := hji4
 by_cases c5 : 0 ≤ (ji4)
 ·rw [if_pos c5] at H
  have c5b0 := eq_true c5
  have c5b1 : decide (0 ≤ (ji4)) = true := decide_eq_true c5
  clear c5
  by_cases c6 : (ji4) ≤ (l1.length : Int)
  ·rw [if_pos c6] at H
   have c6b0 := eq_true c6
   have c6b1 : decide ((ji4) ≤ (l1.length : Int)) = true := decide_eq_true c6
   clear c6
   replace H := Option.bind_eq_some_iff.mp H
   obtain ⟨t292, A70, H⟩ := H
   replace H : ((lots_Run.f k t285 t288 t292).bind fun bt295 => ((comfitref02_Valid.f k l0_0 l0_1).bind fun t298 => (if t298 = true then (comfitlaw02_LotsRuns.j0 k l1 bt295.1 bt295.2.1 bt295.2.2 ((l1.length : Int) != (l0_0.length : Int)) l0_0 l0_1) else (comfitlaw02_LotsRuns.j0 k l1 bt295.1 bt295.2.1 bt295.2.2 true l0_0 l0_1)))) = some r := H
   have A7 := Aside0.mk A70
   clear A70
   replace H := Option.bind_eq_some_iff.mp H
   obtain ⟨⟨t295, t296, t297⟩, A80, H⟩ := H
   replace H : ((comfitref02_Valid.f k l0_0 l0_1).bind fun t298 => (if t298 = true then (comfitlaw02_LotsRuns.j0 k l1 t295 t296 t297 ((l1.length : Int) != (l0_0.length : Int)) l0_0 l0_1) else (comfitlaw02_LotsRuns.j0 k l1 t295 t296 t297 true l0_0 l0_1))) = some r := H
   have A8 := Aside0.mk A80
   clear A80
   have HC9 := Aside0.mk H
   clear H
   go_enter Try.func6, Try.ntmps6
   try go_wp2_with (first | ((with_reducible refine gate_dst (N := 2) rfl ?_); (try (refine gate_guard (by rfl) ?_; dsimp only)); refine box_event ?hg (N := 2) ?hd (cs := #[.slice A0_0 l0_0.length c0_0, .slice A0_1 l0_1.length c0_1]) (t := 24) ?hr ?_; (case hd => rfl); (case hg => rfl); (case hr => first | (go_simp; done) | (go_simp; rfl)); intro gb284 hg w10 hbox hb; have n0_ := Aside0.mk (below_step (hb_ HB.out) hb); have n1_ := Aside0.mk (hbox); have n2_ := Aside0.mk ((by rw [hg]; exact (below_size (hb_ HB.out)) : w.heap.size ≤ gb284)); have n3_ := Aside0.mk ((by rw [hg]; exact (below_size (hb_ HB.out)) : w.heap.size ≤ gb284)); clear HB; have HB := n0_; have BK284 := n1_; have GW284 := n2_; have GE284 := n3_; clear n0_ n1_ n2_ n3_; clear hb hbox hg))
   have n0_ := Aside0.mk (blk_drew BK284.out)
   have n1_ := Aside0.mk (below_drew1 HB.out)
   clear BK284
   clear HB
   have BK284 := n0_
   have HB := n1_
   clear n0_ n1_
   obtain ⟨i012, hi012, _, hsz12, _⟩ := info_parts info4
   obtain ⟨hcut12, hA12, hC12⟩ := print_take_of (P := Try.prog) Value.bool false 45 4 .i64 Try.underlying45 hi012 hsz12 A1 c1 l1 (ji4) (of_decide_eq_true (by first | (with_reducible assumption) | assumption)) (of_decide_eq_true (by first | (with_reducible assumption) | assumption)) HC1.out
   have HR291 := Aside0.mk (Kd.C_of_reads (h1 := fun _ => rfl) (hA12 _ (Kd.reads_of_C HR1.out)))
   have HC291 := Aside0.mk hC12
   clear hA12 hC12 hi012 hsz12
   refine start_ (n := 16) (S := fun w' => w'.cell? ⟨gb284, 0, none⟩ = some (.slice A0_0 l0_0.length c0_0) ∧ w'.cell? ⟨gb284, 1, none⟩ = some (.slice A0_1 l0_1.length c0_1)) (ds := []) #[false, false, false, false, false, false, false, false, false, false, false, false, false, false, false, false] (by kernel_rfl) rfl rfl ⟨(blk_cell BK284.out 0).trans rfl, (blk_cell BK284.out 1).trans rfl⟩ (fun hHeld => ?_); refine with_tabW comfitlaw02_LotsRuns.tab1 comfitlaw02_LotsRuns.bits1 (fun HT_ HW_ => ?_)
   generalize w10.drew = w11 at BK284 HB HR291 hHeld ⊢
   refine pure_ (i := 2) (N := some 13) (v := ?_) (a' := ?_) #[false, false, true, false, false, false, false, false, false, false, false, false, false, false, false, false] rfl rfl (any_of HT_.out (by kernel_rfl)) (fun _ _ _ h => h) (Or.inl ⟨by rfl, ?_⟩) ?_ ?_
   rotate_left
   ·intro w'
    go_simp
    with_reducible rfl
   rotate_left
   ·simp only [Act.put, List.setIfInBounds_toArray, List.set_cons_zero, List.set_cons_succ, i64_w, i32_w]
    rfl
   refine pure_ (i := 3) (N := some 14) (v := ?_) (a' := ?_) #[false, false, true, true, false, false, false, false, false, false, false, false, false, false, false, false] rfl rfl (any_of HT_.out (by kernel_rfl)) (fun _ _ _ h => h) (Or.inl ⟨by rfl, ?_⟩) ?_ ?_
   rotate_left
   ·intro w'
    go_simp
    with_reducible rfl
   rotate_left
   ·simp only [Act.put, List.setIfInBounds_toArray, List.set_cons_zero, List.set_cons_succ, i64_w, i32_w]
    rfl
   refine pure_ (i := 4) (N := some 15) (v := ?_) (a' := ?_) #[false, false, true, true, true, false, false, false, false, false, false, false, false, false, false, false] rfl rfl (any_of HT_.out (by kernel_rfl)) (fun _ _ _ h => h) (Or.inl ⟨by rfl, ?_⟩) ?_ ?_
   rotate_left
   ·intro w'
    go_simp
    with_reducible rfl
   rotate_left
   ·simp only [Act.put, List.setIfInBounds_toArray, List.set_cons_zero, List.set_cons_succ, i64_w, i32_w]
    rfl
   refine pure_ (i := 5) (N := some 16) (v := ?_) (a' := ?_) #[false, false, true, true, true, true, false, false, false, false, false, false, false, false, false, false] rfl rfl (any_of HT_.out (by kernel_rfl)) (fun _ _ _ h => h) (Or.inl ⟨by rfl, ?_⟩) ?_ ?_
   rotate_left
   ·intro w'
    go_simp
    with_reducible rfl
   rotate_left
   ·simp only [Act.put, List.setIfInBounds_toArray, List.set_cons_zero, List.set_cons_succ, i64_w, i32_w]
    rfl
   refine pure_ (i := 6) (N := some 17) (v := ?_) (a' := ?_) #[false, false, true, true, true, true, true, false, false, false, false, false, false, false, false, false] rfl rfl (any_of HT_.out (by kernel_rfl)) (fun _ _ _ h => h) (Or.inl ⟨by rfl, ?_⟩) ?_ ?_
   rotate_left
   ·intro w'
    go_simp
    with_reducible rfl
   rotate_left
   ·simp only [Act.put, List.setIfInBounds_toArray, List.set_cons_zero, List.set_cons_succ, i64_w, i32_w]
    rfl
   refine take_ (i := 0) (N := some 11) (v := ?_) (a' := ?_) #[true, false, true, true, true, true, true, false, false, false, false, false, false, false, false, false] rfl rfl (take_ofW HT_.out HW_.out (by kernel_rfl)) (fun _ _ _ h => h) (Or.inl ⟨by rfl, ?_⟩) hHeld ?_ ?_
   rotate_left
   ·rintro w' ⟨s0, s1⟩
    go_simp
    with_reducible rfl
   rotate_left
   ·simp only [Act.put, List.setIfInBounds_toArray, List.set_cons_zero, List.set_cons_succ, i64_w, i32_w]
    rfl
   refine one_ (i := 1) (N := some 12) #[true, true, true, true, true, true, true, false, false, false, false, false, false, false, false, false] rfl rfl (one_of HT_.out (by kernel_rfl)) (by decide) (fun K hK => ?_)
   refine goes_ Try.func20 (by kernel_rfl) rfl #[.agg #[.slice A0_0 l0_0.length c0_0, .slice A0_1 l0_1.length c0_1]] (by rfl) rfl rfl al_ ?_
   with_reducible refine (comfitlaw02_Of.calls _ _ l0_0 _ _ l0_1 t285 t288 _ ?side1 ?side2 ?side3 ?side4 A3.out).mono ?_
   (case side1 => exact kc_ (Kd.C_below HR0_0.out HB.out))
   (case side2 => exact HC0_0.out)
   (case side3 => exact kc_ (Kd.C_below HR0_1.out HB.out))
   (case side4 => exact HC0_1.out)
   rintro e w13 ⟨v286, v289, rfl, ho0, ho1, hb⟩
   refine ⟨_, rfl, ?_⟩
   have n0_ := Aside0.mk (Kd.R_lower ho0 (below_size (hb_ HB.out)))
   have n1_ := Aside0.mk (Kd.R_lower ho1 (below_size (hb_ HB.out)))
   have n2_ := Aside0.mk (bkb_ BK284.out hb)
   have n3_ := Aside0.mk (below_step (hb_ HB.out) hb)
   clear BK284
   clear HB
   have HO287 := n0_
   have HO290 := n1_
   have BK284 := n2_
   have HB := n3_
   clear n0_ n1_ n2_ n3_
   (try clear hb)
   (try clear hb2)
   (try clear hk)
   (try clear hi)
   (try clear ho0)
   (try clear ho1)
   refine hK.out _ _ ⟨(blk_cell BK284.out 0).trans rfl, (blk_cell BK284.out 1).trans rfl⟩ (fun hHeld => ?_)
   clear hK K
   refine norm_ (a' := ?_) ?_ ?_
   rotate_left
   ·show Act.put _ (some 12) _ = _
    simp only [Act.put, List.setIfInBounds_toArray, List.set_cons_zero, List.set_cons_succ, i64_w, i32_w]
    rfl
   refine one_ (i := 7) (N := some 18) #[true, true, true, true, true, true, true, true, false, false, false, false, false, false, false, false] rfl rfl (one_of HT_.out (by kernel_rfl)) (by decide) (fun K hK => ?_)
   refine goes_ Try.func34 (by kernel_rfl) rfl #[.slice A1 (l1.take ((ji4) : Int).toNat).length c1] (by rfl) rfl rfl (by (try simp only [List.map_toArray, List.map_cons, List.map_nil]); first | done | (rw [show (l1.take ((ji4) : Int).toNat).length = (ji4).toNat from (by rw [List.length_take]; have h_ : ((ji4) : Int) ≤ (l1.length : Int) := of_decide_eq_true (by first | (with_reducible assumption) | assumption); omega)] <;> rfl) | (simp only [hji4]; rfl) | rfl | (simp only [List.length_drop, List.length_take]; rfl)) ?_
   with_reducible refine (slices_Clone_bool_bool.calls _ _ (l1.take ((ji4) : Int).toNat) t292 _ ?side1 ?side2 A7.out).mono ?_
   (case side1 => exact kc_ (Kd.C_below HR291.out HB.out))
   (case side2 => exact HC291.out)
   rintro e w14 ⟨v293, rfl, ho0, hb⟩
   refine ⟨_, rfl, ?_⟩
   have n0_ := Aside0.mk (Kd.R_below (kr_ (HO287.out)) hb)
   have n1_ := Aside0.mk (Kd.R_below (kr_ (HO290.out)) hb)
   have n2_ := Aside0.mk (Kd.R_lower ho0 (below_size (hb_ HB.out)))
   have n3_ := Aside0.mk (bkb_ BK284.out hb)
   have n4_ := Aside0.mk (below_step (hb_ HB.out) hb)
   clear HO287
   clear HO290
   clear BK284
   clear HB
   have HO287 := n0_
   have HO290 := n1_
   have HO294 := n2_
   have BK284 := n3_
   have HB := n4_
   clear n0_ n1_ n2_ n3_ n4_
   (try clear hb)
   (try clear hb2)
   (try clear hk)
   (try clear hi)
   (try clear ho0)
   obtain ⟨Ao15, co15, eo15⟩ := Kd.R_slice HO287.out
   (first | subst eo15 | (injection eo15 with f1_ f2_ f3_; have f4_ := f1_.symm; have f5_ := f3_.symm; clear f1_ f2_ f3_; subst f4_; subst f5_))
   obtain ⟨Ao16, co16, eo16⟩ := Kd.R_slice HO290.out
   (first | subst eo16 | (injection eo16 with f1_ f2_ f3_; have f4_ := f1_.symm; have f5_ := f3_.symm; clear f1_ f2_ f3_; subst f4_; subst f5_))
   obtain ⟨Ao17, co17, eo17⟩ := Kd.R_slice HO294.out
   (first | subst eo17 | (injection eo17 with f1_ f2_ f3_; have f4_ := f1_.symm; have f5_ := f3_.symm; clear f1_ f2_ f3_; subst f4_; subst f5_))
   refine hK.out _ _ ⟨(blk_cell BK284.out 0).trans rfl, (blk_cell BK284.out 1).trans rfl⟩ (fun hHeld => ?_)
   clear hK K
   refine norm_ (a' := ?_) ?_ ?_
   rotate_left
   ·show Act.put _ (some 18) _ = _
    simp only [Act.put, List.setIfInBounds_toArray, List.set_cons_zero, List.set_cons_succ, i64_w, i32_w]
    rfl
   refine one_ (i := 8) (N := some 19) #[true, true, true, true, true, true, true, true, true, false, false, false, false, false, false, false] rfl rfl (one_of HT_.out (by kernel_rfl)) (by decide) (fun K hK => ?_)
   refine goes_ Try.func33 (by kernel_rfl) rfl #[.agg #[.slice Ao15 t285.length co15, .slice Ao16 t288.length co16], .slice Ao17 t292.length co17] (by rfl) rfl rfl al_ ?_
   with_reducible refine (lots_Run.calls k _ _ t285 _ _ t288 _ _ t292 t295 t296 t297 _ ?side1 ?side2 ?side3 ?side4 ?side5 ?side6 A8.out).mono ?_
   (case side1 => exact kc_ (Kd.R_reads' HO287.out).2.2)
   (case side2 => exact (Kd.R_reads' HO287.out).2.1)
   (case side3 => exact kc_ (Kd.R_reads' HO290.out).2.2)
   (case side4 => exact (Kd.R_reads' HO290.out).2.1)
   (case side5 => exact kc_ (Kd.R_reads' HO294.out).2.2)
   (case side6 => exact (Kd.R_reads' HO294.out).2.1)
   rintro e w18 ⟨rfl, hb⟩
   refine ⟨_, rfl, ?_⟩
   have n0_ := Aside0.mk (Kd.R_below (kr_ (HO287.out)) hb)
   have n1_ := Aside0.mk (Kd.R_below (kr_ (HO290.out)) hb)
   have n2_ := Aside0.mk (Kd.R_below (kr_ (HO294.out)) hb)
   have n3_ := Aside0.mk (bkb_ BK284.out hb)
   have n4_ := Aside0.mk (below_step (hb_ HB.out) hb)
   clear HO287
   clear HO290
   clear HO294
   clear BK284
   clear HB
   have HO287 := n0_
   have HO290 := n1_
   have HO294 := n2_
   have BK284 := n3_
   have HB := n4_
   clear n0_ n1_ n2_ n3_ n4_
   (try clear hb)
   (try clear hb2)
   (try clear hk)
   (try clear hi)
   refine hK.out _ _ ⟨(blk_cell BK284.out 0).trans rfl, (blk_cell BK284.out 1).trans rfl⟩ (fun hHeld => ?_)
   clear hK K
   refine norm_ (a' := ?_) ?_ ?_
   rotate_left
   ·show Act.put _ (some 19) _ = _
    simp only [Act.put, List.setIfInBounds_toArray, List.set_cons_zero, List.set_cons_succ, i64_w, i32_w]
    rfl
   refine pure_ (i := 9) (N := some 10) (v := ?_) (a' := ?_) #[true, true, true, true, true, true, true, true, true, true, false, false, false, false, false, false] rfl rfl (any_of HT_.out (by kernel_rfl)) (fun _ _ _ h => h) (Or.inl ⟨by rfl, ?_⟩) ?_ ?_
   rotate_left
   ·intro w'
    go_simp
    with_reducible rfl
   rotate_left
   ·simp only [Act.put, List.setIfInBounds_toArray, List.set_cons_zero, List.set_cons_succ, i64_w, i32_w]
    rfl
   refine pure_ (i := 10) (N := some 20) (v := ?_) (a' := ?_) #[true, true, true, true, true, true, true, true, true, true, true, false, false, false, false, false] rfl rfl (any_of HT_.out (by kernel_rfl)) (fun _ _ _ h => h) (Or.inl ⟨by rfl, ?_⟩) ?_ ?_
   rotate_left
   ·intro w'
    go_simp
    with_reducible rfl
   rotate_left
   ·simp only [Act.put, List.setIfInBounds_toArray, List.set_cons_zero, List.set_cons_succ, i64_w, i32_w]
    rfl
   refine pure_ (i := 11) (N := some 21) (v := ?_) (a' := ?_) #[true, true, true, true, true, true, true, true, true, true, true, true, false, false, false, false] rfl rfl (any_of HT_.out (by kernel_rfl)) (fun _ _ _ h => h) (Or.inl ⟨by rfl, ?_⟩) ?_ ?_
   rotate_left
   ·intro w'
    go_simp
    with_reducible rfl
   rotate_left
   ·simp only [Act.put, List.setIfInBounds_toArray, List.set_cons_zero, List.set_cons_succ, i64_w, i32_w]
    rfl
   refine pure_ (i := 12) (N := some 22) (v := ?_) (a' := ?_) #[true, true, true, true, true, true, true, true, true, true, true, true, true, false, false, false] rfl rfl (any_of HT_.out (by kernel_rfl)) (fun _ _ _ h => h) (Or.inl ⟨by rfl, ?_⟩) ?_ ?_
   rotate_left
   ·intro w'
    go_simp
    with_reducible rfl
   rotate_left
   ·simp only [Act.put, List.setIfInBounds_toArray, List.set_cons_zero, List.set_cons_succ, i64_w, i32_w]
    rfl
   refine pure_ (i := 13) (N := some 5) (v := ?_) (a' := ?_) #[true, true, true, true, true, true, true, true, true, true, true, true, true, true, false, false] rfl rfl (any_of HT_.out (by kernel_rfl)) (fun _ _ _ h => h) (Or.inl ⟨by rfl, ?_⟩) ?_ ?_
   rotate_left
   ·intro w'
    go_simp
    with_reducible rfl
   rotate_left
   ·simp only [Act.put, List.setIfInBounds_toArray, List.set_cons_zero, List.set_cons_succ, i64_w, i32_w]
    rfl
   refine pure_ (i := 14) (N := some 6) (v := ?_) (a' := ?_) #[true, true, true, true, true, true, true, true, true, true, true, true, true, true, true, false] rfl rfl (any_of HT_.out (by kernel_rfl)) (fun _ _ _ h => h) (Or.inl ⟨by rfl, ?_⟩) ?_ ?_
   rotate_left
   ·intro w'
    go_simp
    with_reducible rfl
   rotate_left
   ·simp only [Act.put, List.setIfInBounds_toArray, List.set_cons_zero, List.set_cons_succ, i64_w, i32_w]
    rfl
   refine pure_ (i := 15) (N := some 7) (v := ?_) (a' := ?_) #[true, true, true, true, true, true, true, true, true, true, true, true, true, true, true, true] rfl rfl (any_of HT_.out (by kernel_rfl)) (fun _ _ _ h => h) (Or.inl ⟨by rfl, ?_⟩) ?_ ?_
   rotate_left
   ·intro w'
    go_simp
    with_reducible rfl
   rotate_left
   ·simp only [Act.put, List.setIfInBounds_toArray, List.set_cons_zero, List.set_cons_succ, i64_w, i32_w]
    rfl
   refine done_ (done_of HT_.out (by kernel_rfl)) ?_
   go_upto_region 2 with (fail)
   go_cut [33] (fun v33 wc => ∃ (kq : Nat) (x33_8 : Bool), v33 = .bool x33_8 ∧ Aside0 (comfitlaw02_LotsRuns.j0 kq l1 t295 t296 t297 x33_8 l0_0 l0_1 = some r) ∧ Aside0 (kq ≤ k) ∧ Aside0 (wc.heap[gb284]? = some (.cells #[(.slice A0_0 l0_0.length c0_0), (.slice A0_1 l0_1.length c0_1)] 24 (0, 0))) ∧ Aside0 (Below w.heap.size w wc))
   case first =>
    have H := HC9.out
    clear HC9
    replace H := Option.bind_eq_some_iff.mp H
    obtain ⟨t298, A190, H⟩ := H
    replace H : (if t298 = true then (comfitlaw02_LotsRuns.j0 k l1 t295 t296 t297 ((l1.length : Int) != (l0_0.length : Int)) l0_0 l0_1) else (comfitlaw02_LotsRuns.j0 k l1 t295 t296 t297 true l0_0 l0_1)) = some r := H
    have A19 := Aside0.mk A190
    clear A190
    by_cases c20 : t298 = true
    ·subst c20
     have H1 : (comfitlaw02_LotsRuns.j0 k l1 t295 t296 t297 ((l1.length : Int) != (l0_0.length : Int)) l0_0 l0_1) = some r := by rw [if_pos rfl] at H; exact H
     clear H
     have H := H1
     clear H1
     have H' := Aside0.mk H
     clear H
     have hcz21_0 : w18.cell? ⟨gb284, 0, none⟩ = some (.slice A0_0 l0_0.length c0_0) := (blk_cell BK284.out 0).trans rfl
     have hcz21_1 : w18.cell? ⟨gb284, 1, none⟩ = some (.slice A0_1 l0_1.length c0_1) := (blk_cell BK284.out 1).trans rfl
     have hfz21_0 := blk_frozen BK284.out 0
     have hfz21_1 := blk_frozen BK284.out 1
     go_wp2_with (first | ((with_reducible refine gate_callee (f := 23) rfl ?_); refine goesL_ (some 24) rfl rfl Try.func23 (by kernel_rfl) rfl #[.agg #[.slice A0_0 l0_0.length c0_0, .slice A0_1 l0_1.length c0_1]] rfl al_ ?_; (with_reducible refine (comfitref02_Valid.calls k _ _ l0_0 _ _ l0_1 true _ ?side1 ?side2 ?side3 ?side4 A19.out).mono ?_); (case side1 => exact kc_ (Kd.C_below HR0_0.out HB.out)); (case side2 => exact HC0_0.out); (case side3 => exact kc_ (Kd.C_below HR0_1.out HB.out)); (case side4 => exact HC0_1.out); rintro e w22 ⟨rfl, hb⟩; refine ⟨_, rfl, ?_⟩; have n0_ := Aside0.mk (Kd.R_below (kr_ (HO287.out)) hb); have n1_ := Aside0.mk (Kd.R_below (kr_ (HO290.out)) hb); have n2_ := Aside0.mk (Kd.R_below (kr_ (HO294.out)) hb); have n3_ := Aside0.mk (bkb_ BK284.out hb); have n4_ := Aside0.mk (below_step (hb_ HB.out) hb); clear HO287; clear HO290; clear HO294; clear BK284; clear HB; have HO287 := n0_; have HO290 := n1_; have HO294 := n2_; have BK284 := n3_; have HB := n4_; clear n0_ n1_ n2_ n3_ n4_; (try clear hb); (try clear hb2); (try clear hk); (try clear hi); have hcz23_0 : w22.cell? ⟨gb284, 0, none⟩ = some (.slice A0_0 l0_0.length c0_0) := (blk_cell BK284.out 0).trans rfl; have hcz23_1 : w22.cell? ⟨gb284, 1, none⟩ = some (.slice A0_1 l0_1.length c0_1) := (blk_cell BK284.out 1).trans rfl; have hfz23_0 := blk_frozen BK284.out 0; have hfz23_1 := blk_frozen BK284.out 1))
     go_meet
     case rel => exact ⟨_, (((l1.length : Int) != (l0_0.length : Int))), (by first | rfl | (simp; done) | (simp [*]; done)), H', ⟨by first | omega | exact Nat.le_refl _⟩, ⟨by (with_reducible repeat (first | refine blk_drewN ?_ _ | refine blk_drew ?_ | refine blk_alloc ?_ _)); exact BK284.out⟩, ⟨by repeat (first | (with_reducible first | exact HB.out | apply below_alloc | apply pw_below_drewN | apply below_drew1 | refine below_set ?_ GE284.out) | exact HB.out)⟩⟩
    ·replace c20 := Bool.eq_false_iff.mpr c20
     subst c20
     have H1 : (comfitlaw02_LotsRuns.j0 k l1 t295 t296 t297 true l0_0 l0_1) = some r := by rw [if_neg (show ¬ (false = true) by decide)] at H; exact H
     clear H
     have H := H1
     clear H1
     have H' := Aside0.mk H
     clear H
     have hcz24_0 : w18.cell? ⟨gb284, 0, none⟩ = some (.slice A0_0 l0_0.length c0_0) := (blk_cell BK284.out 0).trans rfl
     have hcz24_1 : w18.cell? ⟨gb284, 1, none⟩ = some (.slice A0_1 l0_1.length c0_1) := (blk_cell BK284.out 1).trans rfl
     have hfz24_0 := blk_frozen BK284.out 0
     have hfz24_1 := blk_frozen BK284.out 1
     go_wp2_with (first | ((with_reducible refine gate_callee (f := 23) rfl ?_); refine goesL_ (some 24) rfl rfl Try.func23 (by kernel_rfl) rfl #[.agg #[.slice A0_0 l0_0.length c0_0, .slice A0_1 l0_1.length c0_1]] rfl al_ ?_; (with_reducible refine (comfitref02_Valid.calls k _ _ l0_0 _ _ l0_1 false _ ?side1 ?side2 ?side3 ?side4 A19.out).mono ?_); (case side1 => exact kc_ (Kd.C_below HR0_0.out HB.out)); (case side2 => exact HC0_0.out); (case side3 => exact kc_ (Kd.C_below HR0_1.out HB.out)); (case side4 => exact HC0_1.out); rintro e w25 ⟨rfl, hb⟩; refine ⟨_, rfl, ?_⟩; have n0_ := Aside0.mk (Kd.R_below (kr_ (HO287.out)) hb); have n1_ := Aside0.mk (Kd.R_below (kr_ (HO290.out)) hb); have n2_ := Aside0.mk (Kd.R_below (kr_ (HO294.out)) hb); have n3_ := Aside0.mk (bkb_ BK284.out hb); have n4_ := Aside0.mk (below_step (hb_ HB.out) hb); clear HO287; clear HO290; clear HO294; clear BK284; clear HB; have HO287 := n0_; have HO290 := n1_; have HO294 := n2_; have BK284 := n3_; have HB := n4_; clear n0_ n1_ n2_ n3_ n4_; (try clear hb); (try clear hb2); (try clear hk); (try clear hi)))
     go_meet
     case rel => exact ⟨_, (true), (by first | rfl | (simp; done) | (simp [*]; done)), H', ⟨by first | omega | exact Nat.le_refl _⟩, ⟨by (with_reducible repeat (first | refine blk_drewN ?_ _ | refine blk_drew ?_ | refine blk_alloc ?_ _)); exact BK284.out⟩, ⟨by repeat (first | (with_reducible first | exact HB.out | apply below_alloc | apply pw_below_drewN | apply below_drew1 | refine below_set ?_ GE284.out) | exact HB.out)⟩⟩
   case rest =>
    clear HC9
    try clear c1
    try clear c2
    try clear p2
    try clear c3
    try clear c5
    try clear c5b0
    try clear c5b1
    try clear c6
    try clear c6b0
    try clear c6b1
    try clear c20
    try clear c23
    try clear hcz21_0
    try clear hcz21_1
    try clear hcz23_0
    try clear hcz23_1
    try clear hcz24_0
    try clear hcz24_1
    try clear hfz21_0
    try clear hfz21_1
    try clear hfz23_0
    try clear hfz23_1
    try clear hfz24_0
    try clear hfz24_1
    obtain ⟨kq, x33_8, rfl, HA, HJ8, BK284, HB⟩ := hcut
    cases kq with
    | zero => exact absurd HA.out (by simp [comfitlaw02_LotsRuns.j0])
    | succ kj8 =>
     have H := HA.out
     clear HA
     simp only [comfitlaw02_LotsRuns.j0] at H
     by_cases c26 : x33_8 = true
     ·subst c26
      have H1 : (if t295 = 0 then (if t296 = true then (some false) else (if t297 = 2 then ((comfitlaw02_awake.f kj8).bind fun t299 => (some t299)) else (some false))) else (some false)) = some r := by rw [if_pos rfl] at H; exact H
      clear H
      have H := H1
      clear H1
      by_cases c27 : t295 = 0
      ·rw [if_pos c27] at H
       have c27b0 : (t295 == 0) = true := beq_iff_eq.mpr c27
       have c27b1 : (t295 != 0) = false := bne_eq_false_iff_eq.mpr c27
       clear c27
       by_cases c28 : t296 = true
       ·subst c28
        have H1 : (some false) = some r := by rw [if_pos rfl] at H; exact H
        clear H
        have H := H1
        clear H1
        obtain rfl := Option.some.inj H
        go_wp2
        go_ret
        exact ⟨by first | rfl | (simp [errW_none, errW_some] <;> rfl) | (simp only [← hji4]; first | rfl | (simp [errW_none, errW_some] <;> rfl)) | (simp [*, errW_none, errW_some] <;> rfl), by repeat (first | (with_reducible first | exact HB.out | apply below_alloc | apply pw_below_drewN | apply below_drew1 | refine below_set ?_ GE284.out) | exact HB.out)⟩
       ·replace c28 := Bool.eq_false_iff.mpr c28
        subst c28
        have H1 : (if t297 = 2 then ((comfitlaw02_awake.f kj8).bind fun t299 => (some t299)) else (some false)) = some r := by rw [if_neg (show ¬ (false = true) by decide)] at H; exact H
        clear H
        have H := H1
        clear H1
        by_cases c29 : t297 = 2
        ·rw [if_pos c29] at H
         have c29b0 : (t297 == 2) = true := beq_iff_eq.mpr c29
         have c29b1 : (t297 != 2) = false := bne_eq_false_iff_eq.mpr c29
         clear c29
         replace H := Option.bind_eq_some_iff.mp H
         obtain ⟨t299, A300, H⟩ := H
         replace H : (some t299) = some r := H
         have A30 := Aside0.mk A300
         clear A300
         obtain rfl := Option.some.inj H
         go_wp2_with (first | (go_at_call 26; (with_reducible refine (comfitlaw02_awake.calls kj8  t299 _ A30.out).mono ?_); rintro e w31 ⟨rfl, hb⟩; have n0_ := Aside0.mk (bkb_ BK284.out hb); have n1_ := Aside0.mk (below_step (hb_ HB.out) hb); clear BK284; clear HB; have BK284 := n0_; have HB := n1_; clear n0_ n1_; (try clear hb); (try clear hb2); (try clear hk); (try clear hi)))
         go_ret
         exact ⟨by first | rfl | (simp [errW_none, errW_some] <;> rfl) | (simp only [← hji4]; first | rfl | (simp [errW_none, errW_some] <;> rfl)) | (simp [*, errW_none, errW_some] <;> rfl), by repeat (first | (with_reducible first | exact HB.out | apply below_alloc | apply pw_below_drewN | apply below_drew1 | refine below_set ?_ GE284.out) | exact HB.out)⟩
        ·rw [if_neg c29] at H
         have c29b0 : (t297 == 2) = false := beq_eq_false_iff_ne.mpr c29
         have c29b1 : (t297 != 2) = true := bne_iff_ne.mpr c29
         obtain rfl := Option.some.inj H
         go_wp2
         go_ret
         exact ⟨by first | rfl | (simp [errW_none, errW_some] <;> rfl) | (simp only [← hji4]; first | rfl | (simp [errW_none, errW_some] <;> rfl)) | (simp [*, errW_none, errW_some] <;> rfl), by repeat (first | (with_reducible first | exact HB.out | apply below_alloc | apply pw_below_drewN | apply below_drew1 | refine below_set ?_ GE284.out) | exact HB.out)⟩
      ·rw [if_neg c27] at H
       have c27b0 : (t295 == 0) = false := beq_eq_false_iff_ne.mpr c27
       have c27b1 : (t295 != 0) = true := bne_iff_ne.mpr c27
       obtain rfl := Option.some.inj H
       go_wp2
       go_ret
       exact ⟨by first | rfl | (simp [errW_none, errW_some] <;> rfl) | (simp only [← hji4]; first | rfl | (simp [errW_none, errW_some] <;> rfl)) | (simp [*, errW_none, errW_some] <;> rfl), by repeat (first | (with_reducible first | exact HB.out | apply below_alloc | apply pw_below_drewN | apply below_drew1 | refine below_set ?_ GE284.out) | exact HB.out)⟩
     ·replace c26 := Bool.eq_false_iff.mpr c26
      subst c26
      have H1 : ((comfitref02_Run.f kj8 l0_0 l0_1 l1).bind fun bt300 => (if t295 = bt300.1 then (if (t296 == bt300.2) = true then (if t297 = 0 then ((comfitlaw02_awake.f kj8).bind fun t302 => (some t302)) else (some false)) else (some false)) else (some false))) = some r := by rw [if_neg (show ¬ (false = true) by decide)] at H; exact H
      clear H
      have H := H1
      clear H1
      replace H := Option.bind_eq_some_iff.mp H
      obtain ⟨⟨t300, t301⟩, A320, H⟩ := H
      replace H : (if t295 = t300 then (if (t296 == t301) = true then (if t297 = 0 then ((comfitlaw02_awake.f kj8).bind fun t302 => (some t302)) else (some false)) else (some false)) else (some false)) = some r := H
      have A32 := Aside0.mk A320
      clear A320
      by_cases c33 : t295 = t300
      ·rw [if_pos c33] at H
       have c33b0 : (t295 == t300) = true := beq_iff_eq.mpr c33
       have c33b1 : (t295 != t300) = false := bne_eq_false_iff_eq.mpr c33
       clear c33
       by_cases c34 : (t296 == t301) = true
       ·rw [if_pos c34] at H
        have c34b0 : (t296 == t301) = true := c34
        (try (have c34b1 : decide (t296 = t301) = true := by simpa using c34))
        (try (have c34b2 : (t296 == t301) = true := by simpa using c34))
        clear c34
        by_cases c35 : t297 = 0
        ·rw [if_pos c35] at H
         have c35b0 : (t297 == 0) = true := beq_iff_eq.mpr c35
         have c35b1 : (t297 != 0) = false := bne_eq_false_iff_eq.mpr c35
         clear c35
         replace H := Option.bind_eq_some_iff.mp H
         obtain ⟨t302, A360, H⟩ := H
         replace H : (some t302) = some r := H
         have A36 := Aside0.mk A360
         clear A360
         obtain rfl := Option.some.inj H
         have hcz37_0 : wc.cell? ⟨gb284, 0, none⟩ = some (.slice A0_0 l0_0.length c0_0) := (blk_cell BK284.out 0).trans rfl
         have hcz37_1 : wc.cell? ⟨gb284, 1, none⟩ = some (.slice A0_1 l0_1.length c0_1) := (blk_cell BK284.out 1).trans rfl
         have hfz37_0 := blk_frozen BK284.out 0
         have hfz37_1 := blk_frozen BK284.out 1
         go_wp2_with (first | ((with_reducible refine gate_callee (f := 35) rfl ?_); refine goesL_ (some 50) rfl rfl Try.func35 (by kernel_rfl) rfl #[.agg #[.slice A0_0 l0_0.length c0_0, .slice A0_1 l0_1.length c0_1], .slice A1 l1.length c1] rfl al_ ?_; (with_reducible refine (comfitref02_Run.calls kj8 _ _ l0_0 _ _ l0_1 _ _ l1 t300 t301 _ ?side1 ?side2 ?side3 ?side4 ?side5 ?side6 A32.out).mono ?_); (case side1 => exact kc_ (Kd.C_below HR0_0.out HB.out)); (case side2 => exact HC0_0.out); (case side3 => exact kc_ (Kd.C_below HR0_1.out HB.out)); (case side4 => exact HC0_1.out); (case side5 => exact kc_ (Kd.C_below HR1.out HB.out)); (case side6 => exact HC1.out); rintro e w38 ⟨rfl, hb⟩; refine ⟨_, rfl, ?_⟩; have n0_ := Aside0.mk (bkb_ BK284.out hb); have n1_ := Aside0.mk (below_step (hb_ HB.out) hb); clear BK284; clear HB; have BK284 := n0_; have HB := n1_; clear n0_ n1_; (try clear hb); (try clear hb2); (try clear hk); (try clear hi)) | (go_at_call 26; (with_reducible refine (comfitlaw02_awake.calls kj8  t302 _ A36.out).mono ?_); rintro e w39 ⟨rfl, hb⟩; have n0_ := Aside0.mk (bkb_ BK284.out hb); have n1_ := Aside0.mk (below_step (hb_ HB.out) hb); clear BK284; clear HB; have BK284 := n0_; have HB := n1_; clear n0_ n1_; (try clear hb); (try clear hb2); (try clear hk); (try clear hi)))
         go_ret
         exact ⟨by first | rfl | (simp [errW_none, errW_some] <;> rfl) | (simp only [← hji4]; first | rfl | (simp [errW_none, errW_some] <;> rfl)) | (simp [*, errW_none, errW_some] <;> rfl), by repeat (first | (with_reducible first | exact HB.out | apply below_alloc | apply pw_below_drewN | apply below_drew1 | refine below_set ?_ GE284.out) | exact HB.out)⟩
        ·rw [if_neg c35] at H
         have c35b0 : (t297 == 0) = false := beq_eq_false_iff_ne.mpr c35
         have c35b1 : (t297 != 0) = true := bne_iff_ne.mpr c35
         obtain rfl := Option.some.inj H
         have hcz40_0 : wc.cell? ⟨gb284, 0, none⟩ = some (.slice A0_0 l0_0.length c0_0) := (blk_cell BK284.out 0).trans rfl
         have hcz40_1 : wc.cell? ⟨gb284, 1, none⟩ = some (.slice A0_1 l0_1.length c0_1) := (blk_cell BK284.out 1).trans rfl
         have hfz40_0 := blk_frozen BK284.out 0
         have hfz40_1 := blk_frozen BK284.out 1
         go_wp2_with (first | ((with_reducible refine gate_callee (f := 35) rfl ?_); refine goesL_ (some 50) rfl rfl Try.func35 (by kernel_rfl) rfl #[.agg #[.slice A0_0 l0_0.length c0_0, .slice A0_1 l0_1.length c0_1], .slice A1 l1.length c1] rfl al_ ?_; (with_reducible refine (comfitref02_Run.calls kj8 _ _ l0_0 _ _ l0_1 _ _ l1 t300 t301 _ ?side1 ?side2 ?side3 ?side4 ?side5 ?side6 A32.out).mono ?_); (case side1 => exact kc_ (Kd.C_below HR0_0.out HB.out)); (case side2 => exact HC0_0.out); (case side3 => exact kc_ (Kd.C_below HR0_1.out HB.out)); (case side4 => exact HC0_1.out); (case side5 => exact kc_ (Kd.C_below HR1.out HB.out)); (case side6 => exact HC1.out); rintro e w41 ⟨rfl, hb⟩; refine ⟨_, rfl, ?_⟩; have n0_ := Aside0.mk (bkb_ BK284.out hb); have n1_ := Aside0.mk (below_step (hb_ HB.out) hb); clear BK284; clear HB; have BK284 := n0_; have HB := n1_; clear n0_ n1_; (try clear hb); (try clear hb2); (try clear hk); (try clear hi)))
         go_ret
         exact ⟨by first | rfl | (simp [errW_none, errW_some] <;> rfl) | (simp only [← hji4]; first | rfl | (simp [errW_none, errW_some] <;> rfl)) | (simp [*, errW_none, errW_some] <;> rfl), by repeat (first | (with_reducible first | exact HB.out | apply below_alloc | apply pw_below_drewN | apply below_drew1 | refine below_set ?_ GE284.out) | exact HB.out)⟩
       ·rw [if_neg c34] at H
        have c34b0 : (t296 == t301) = false := by simpa using c34
        (try (have c34b1 : decide (t296 = t301) = false := by simpa using c34))
        (try (have c34b2 : (t296 == t301) = false := by simpa using c34))
        (try (have c34b3 : ¬ (t296 = t301) := by simpa using c34))
        clear c34
        obtain rfl := Option.some.inj H
        have hcz42_0 : wc.cell? ⟨gb284, 0, none⟩ = some (.slice A0_0 l0_0.length c0_0) := (blk_cell BK284.out 0).trans rfl
        have hcz42_1 : wc.cell? ⟨gb284, 1, none⟩ = some (.slice A0_1 l0_1.length c0_1) := (blk_cell BK284.out 1).trans rfl
        have hfz42_0 := blk_frozen BK284.out 0
        have hfz42_1 := blk_frozen BK284.out 1
        go_wp2_with (first | ((with_reducible refine gate_callee (f := 35) rfl ?_); refine goesL_ (some 50) rfl rfl Try.func35 (by kernel_rfl) rfl #[.agg #[.slice A0_0 l0_0.length c0_0, .slice A0_1 l0_1.length c0_1], .slice A1 l1.length c1] rfl al_ ?_; (with_reducible refine (comfitref02_Run.calls kj8 _ _ l0_0 _ _ l0_1 _ _ l1 t300 t301 _ ?side1 ?side2 ?side3 ?side4 ?side5 ?side6 A32.out).mono ?_); (case side1 => exact kc_ (Kd.C_below HR0_0.out HB.out)); (case side2 => exact HC0_0.out); (case side3 => exact kc_ (Kd.C_below HR0_1.out HB.out)); (case side4 => exact HC0_1.out); (case side5 => exact kc_ (Kd.C_below HR1.out HB.out)); (case side6 => exact HC1.out); rintro e w43 ⟨rfl, hb⟩; refine ⟨_, rfl, ?_⟩; have n0_ := Aside0.mk (bkb_ BK284.out hb); have n1_ := Aside0.mk (below_step (hb_ HB.out) hb); clear BK284; clear HB; have BK284 := n0_; have HB := n1_; clear n0_ n1_; (try clear hb); (try clear hb2); (try clear hk); (try clear hi)))
        go_ret
        exact ⟨by first | rfl | (simp [errW_none, errW_some] <;> rfl) | (simp only [← hji4]; first | rfl | (simp [errW_none, errW_some] <;> rfl)) | (simp [*, errW_none, errW_some] <;> rfl), by repeat (first | (with_reducible first | exact HB.out | apply below_alloc | apply pw_below_drewN | apply below_drew1 | refine below_set ?_ GE284.out) | exact HB.out)⟩
      ·rw [if_neg c33] at H
       have c33b0 : (t295 == t300) = false := beq_eq_false_iff_ne.mpr c33
       have c33b1 : (t295 != t300) = true := bne_iff_ne.mpr c33
       obtain rfl := Option.some.inj H
       have hcz44_0 : wc.cell? ⟨gb284, 0, none⟩ = some (.slice A0_0 l0_0.length c0_0) := (blk_cell BK284.out 0).trans rfl
       have hcz44_1 : wc.cell? ⟨gb284, 1, none⟩ = some (.slice A0_1 l0_1.length c0_1) := (blk_cell BK284.out 1).trans rfl
       have hfz44_0 := blk_frozen BK284.out 0
       have hfz44_1 := blk_frozen BK284.out 1
       go_wp2_with (first | ((with_reducible refine gate_callee (f := 35) rfl ?_); refine goesL_ (some 50) rfl rfl Try.func35 (by kernel_rfl) rfl #[.agg #[.slice A0_0 l0_0.length c0_0, .slice A0_1 l0_1.length c0_1], .slice A1 l1.length c1] rfl al_ ?_; (with_reducible refine (comfitref02_Run.calls kj8 _ _ l0_0 _ _ l0_1 _ _ l1 t300 t301 _ ?side1 ?side2 ?side3 ?side4 ?side5 ?side6 A32.out).mono ?_); (case side1 => exact kc_ (Kd.C_below HR0_0.out HB.out)); (case side2 => exact HC0_0.out); (case side3 => exact kc_ (Kd.C_below HR0_1.out HB.out)); (case side4 => exact HC0_1.out); (case side5 => exact kc_ (Kd.C_below HR1.out HB.out)); (case side6 => exact HC1.out); rintro e w45 ⟨rfl, hb⟩; refine ⟨_, rfl, ?_⟩; have n0_ := Aside0.mk (bkb_ BK284.out hb); have n1_ := Aside0.mk (below_step (hb_ HB.out) hb); clear BK284; clear HB; have BK284 := n0_; have HB := n1_; clear n0_ n1_; (try clear hb); (try clear hb2); (try clear hk); (try clear hi)))
       go_ret
       exact ⟨by first | rfl | (simp [errW_none, errW_some] <;> rfl) | (simp only [← hji4]; first | rfl | (simp [errW_none, errW_some] <;> rfl)) | (simp [*, errW_none, errW_some] <;> rfl), by repeat (first | (with_reducible first | exact HB.out | apply below_alloc | apply pw_below_drewN | apply below_drew1 | refine below_set ?_ GE284.out) | exact HB.out)⟩
  ·rw [if_neg c6] at H
   exact absurd H (by simp)
 ·rw [if_neg c5] at H
  exact absurd H (by simp)

end Go.Proofs.Ytdppnmfljfdhaaa.X
