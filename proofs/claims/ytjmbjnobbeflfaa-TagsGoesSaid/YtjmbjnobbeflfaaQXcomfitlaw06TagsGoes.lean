/- Written by a program of this session (wip/tools/xprint.py, which calls the kit's print): Go functions as Lean functions, and for each the proof that the machine's call does what it says; no conditions but those that each theorem names. -/
import Derived.Test.YtjmbjnobbeflfaaQX0
import Derived.Test.YtjmbjnobbeflfaaQXE
import Derived.Test.YtjmbjnobbeflfaaQXEq
import Derived.Test.YtjmbjnobbeflfaaQXG
import Derived.Test.YtjmbjnobbeflfaaQXM
import Derived.Test.YtjmbjnobbeflfaaQXO
import Derived.Test.YtjmbjnobbeflfaaQXRG
import Derived.Test.YtjmbjnobbeflfaaQXRJ
namespace Go.Proofs.Ytjmbjnobbeflfaa.X
open Go.RowKit Go.Proofs.YtjmbjnobbeflfaaW.PrintWords Go.Proofs.YtjmbjnobbeflfaaW.PrintLast Go.Proofs.YtjmbjnobbeflfaaW.PrintMore
attribute [local go_sem] max2_int min2_int max_two min_two max_three min_three max_four min_four   -- for this text's walks alone
set_option linter.unusedVariables false
set_option linter.unusedSimpArgs false

attribute [local go_sem high] eqA23
/-! ### comfitlaw06_TagsGoes: function 3 -/
def comfitlaw06_TagsGoes.j0 : Nat → List (S39) → Int → Int → Int → Int → Bool → Int → Int → Int → Int → Option (Bool)
 | 0, _, _, _, _, _, _, _, _, _, _ => none
 | k + 1, x0, x2, x7, x9, x10, x39, x244000, x244001, x253000, x253001 => if x39 = true then (if x7 = 0 then (if (x253000 == 0 && (x253001 == 0)) = true then (if x9 = 0 then (if x10 = 2 then ((comfitlaw06_awake.f k).bind fun t255 => (some t255)) else (some false)) else (some false)) else (some false)) else (some false)) else ((comfitref06_Go.f k x0 x244000 x244001 x2).bind fun bt256 => (if x7 = bt256.1 then (if (x253000 == bt256.2.1 && (x253001 == bt256.2.2.1)) = true then (if x9 = bt256.2.2.2 then (if x10 = 0 then ((comfitlaw06_awake.f k).bind fun t261 => (some t261)) else (some false)) else (some false)) else (some false)) else (some false)))
def comfitlaw06_TagsGoes.f (k : Nat) (l0 : List (S39)) (a1_0 : Int) (a1_1 : Int) (a2 : Int) : Option (Bool) := (comfitlaw06_Of.f k l0).bind fun t244 => ((tags_Go.f k t244 a1_0 a1_1 a2).bind fun bt247 => ((comfitref06_Machine.f k l0).bind fun t253 => (if t253 = true then ((comfitref06_Jars.f a1_0 a1_1).bind fun t254 => (if t254 = true then (if a2 < 0 then (comfitlaw06_TagsGoes.j0 k l0 a2 bt247.1 bt247.2.2.2.1 bt247.2.2.2.2 true a1_0 a1_1 bt247.2.1 bt247.2.2.1) else (comfitlaw06_TagsGoes.j0 k l0 a2 bt247.1 bt247.2.2.2.1 bt247.2.2.2.2 (decide (a2 > 1000)) a1_0 a1_1 bt247.2.1 bt247.2.2.1)) else (comfitlaw06_TagsGoes.j0 k l0 a2 bt247.1 bt247.2.2.2.1 bt247.2.2.2.2 true a1_0 a1_1 bt247.2.1 bt247.2.2.1))) else (comfitlaw06_TagsGoes.j0 k l0 a2 bt247.1 bt247.2.2.2.1 bt247.2.2.2.2 true a1_0 a1_1 bt247.2.1 bt247.2.2.1))))
def comfitlaw06_TagsGoes.T1 : Bool × List (List Nat × List Nat) := (true, [([], []), ([0], [0]), ([], []), ([], []), ([1, 2, 3, 1], [1, 2, 3]), ([4], [4]), ([5], [5]), ([5], [5]), ([5], [5]), ([5], [5]), ([], []), ([6, 4, 0, 1, 2, 3, 4, 5, 6, 10], [6]), ([10, 7, 11, 0, 1, 2, 3, 4, 5, 6, 7, 10, 11], [7, 10]), ([8, 12, 0, 1, 2, 3, 4, 5, 6, 7, 8, 10, 11, 12], [8]), ([9, 13, 0, 1, 2, 3, 4, 5, 6, 7, 8, 9, 10, 11, 12, 13], [9])])
def comfitlaw06_TagsGoes.B1 : List Nat := [0, 1, 0, 0, 15, 31, 63, 63, 63, 63, 0, 1151, 3327, 7679, 16383]
theorem comfitlaw06_TagsGoes.tab1 : rtab .any (opsOf Try.f3 1) = comfitlaw06_TagsGoes.T1 := by kernel_rfl
theorem comfitlaw06_TagsGoes.bits1 : waitsOk comfitlaw06_TagsGoes.T1.2 comfitlaw06_TagsGoes.B1 = true := by kernel_rfl
set_option maxHeartbeats 8000000 in
set_option maxRecDepth 100000 in
theorem comfitlaw06_TagsGoes.calls (k : Nat) (A0 : Option Addr) (c0 : Nat) (l0 : List (S39)) (a1_0 : Int) (a1_1 : Int) (a2 : Int) (r : Bool) (w : World) (hr0 : Kd.C k39 w A0 l0.length l0) (hc0 : l0.length ≤ c0) (h : comfitlaw06_TagsGoes.f k l0 a1_0 a1_1 a2 = some r) :
  Calls Try.prog 3 #[.slice A0 l0.length c0, .agg #[.int .i64 a1_0, .int .i64 a1_1], .int .i64 a2] w fun e w' => e = .returned (.bool r) ∧ Below w.heap.size w w' := by
 have hu23 := Try.underlying23
 have HR0 := Aside0.mk hr0
 have HC0 := Aside0.mk hc0
 clear hr0 hc0
 have HB := Aside0.mk (Below.refl w.heap.size w)
 have H : ((comfitlaw06_Of.f k l0).bind fun t244 => ((tags_Go.f k t244 a1_0 a1_1 a2).bind fun bt247 => ((comfitref06_Machine.f k l0).bind fun t253 => (if t253 = true then ((comfitref06_Jars.f a1_0 a1_1).bind fun t254 => (if t254 = true then (if a2 < 0 then (comfitlaw06_TagsGoes.j0 k l0 a2 bt247.1 bt247.2.2.2.1 bt247.2.2.2.2 true a1_0 a1_1 bt247.2.1 bt247.2.2.1) else (comfitlaw06_TagsGoes.j0 k l0 a2 bt247.1 bt247.2.2.2.1 bt247.2.2.2.2 (decide (a2 > 1000)) a1_0 a1_1 bt247.2.1 bt247.2.2.1)) else (comfitlaw06_TagsGoes.j0 k l0 a2 bt247.1 bt247.2.2.2.1 bt247.2.2.2.2 true a1_0 a1_1 bt247.2.1 bt247.2.2.1))) else (comfitlaw06_TagsGoes.j0 k l0 a2 bt247.1 bt247.2.2.2.1 bt247.2.2.2.2 true a1_0 a1_1 bt247.2.1 bt247.2.2.1))))) = some r := h
 clear h
 replace H := Option.bind_eq_some_iff.mp H
 obtain ⟨t244, A40, H⟩ := H
 replace H : ((tags_Go.f k t244 a1_0 a1_1 a2).bind fun bt247 => ((comfitref06_Machine.f k l0).bind fun t253 => (if t253 = true then ((comfitref06_Jars.f a1_0 a1_1).bind fun t254 => (if t254 = true then (if a2 < 0 then (comfitlaw06_TagsGoes.j0 k l0 a2 bt247.1 bt247.2.2.2.1 bt247.2.2.2.2 true a1_0 a1_1 bt247.2.1 bt247.2.2.1) else (comfitlaw06_TagsGoes.j0 k l0 a2 bt247.1 bt247.2.2.2.1 bt247.2.2.2.2 (decide (a2 > 1000)) a1_0 a1_1 bt247.2.1 bt247.2.2.1)) else (comfitlaw06_TagsGoes.j0 k l0 a2 bt247.1 bt247.2.2.2.1 bt247.2.2.2.2 true a1_0 a1_1 bt247.2.1 bt247.2.2.1))) else (comfitlaw06_TagsGoes.j0 k l0 a2 bt247.1 bt247.2.2.2.1 bt247.2.2.2.2 true a1_0 a1_1 bt247.2.1 bt247.2.2.1)))) = some r := H
 have A4 := Aside0.mk A40
 clear A40
 replace H := Option.bind_eq_some_iff.mp H
 obtain ⟨⟨t247, t248, t249, t250, t251⟩, A50, H⟩ := H
 replace H : ((comfitref06_Machine.f k l0).bind fun t253 => (if t253 = true then ((comfitref06_Jars.f a1_0 a1_1).bind fun t254 => (if t254 = true then (if a2 < 0 then (comfitlaw06_TagsGoes.j0 k l0 a2 t247 t250 t251 true a1_0 a1_1 t248 t249) else (comfitlaw06_TagsGoes.j0 k l0 a2 t247 t250 t251 (decide (a2 > 1000)) a1_0 a1_1 t248 t249)) else (comfitlaw06_TagsGoes.j0 k l0 a2 t247 t250 t251 true a1_0 a1_1 t248 t249))) else (comfitlaw06_TagsGoes.j0 k l0 a2 t247 t250 t251 true a1_0 a1_1 t248 t249))) = some r := H
 have A5 := Aside0.mk A50
 clear A50
 have HC6 := Aside0.mk H
 clear H
 go_enter Try.func3, Try.ntmps3
 try go_wp2_with (first | ((with_reducible refine gate_dst (N := 4) rfl ?_); refine box_event ?hg (N := 4) ?hd (cs := #[.int .i64 a1_0, .int .i64 a1_1]) (t := 23) ?hr ?_; (case hd => rfl); (case hg => rfl); (case hr => first | (go_simp; done) | (go_simp; rfl)); intro gb243 hg w7 hbox hb; have n0_ := Aside0.mk (below_step (hb_ HB.out) hb); have n1_ := Aside0.mk (hbox); have n2_ := Aside0.mk ((by rw [hg]; exact (below_size (hb_ HB.out)) : w.heap.size ≤ gb243)); have n3_ := Aside0.mk ((by rw [hg]; exact (below_size (hb_ HB.out)) : w.heap.size ≤ gb243)); clear HB; have HB := n0_; have BK243 := n1_; have GW243 := n2_; have GE243 := n3_; clear n0_ n1_ n2_ n3_; clear hb hbox hg))
 have n0_ := Aside0.mk (blk_drew BK243.out)
 have n1_ := Aside0.mk (below_drew1 HB.out)
 clear BK243
 clear HB
 have BK243 := n0_
 have HB := n1_
 clear n0_ n1_
 refine start_ (n := 15) (S := fun w' => w'.cell? ⟨gb243, 0, none⟩ = some (.int .i64 a1_0) ∧ w'.cell? ⟨gb243, 1, none⟩ = some (.int .i64 a1_1)) (ds := []) #[false, false, false, false, false, false, false, false, false, false, false, false, false, false, false] (by kernel_rfl) rfl rfl ⟨(blk_cell BK243.out 0).trans rfl, (blk_cell BK243.out 1).trans rfl⟩ (fun hHeld => ?_); refine with_tabW comfitlaw06_TagsGoes.tab1 comfitlaw06_TagsGoes.bits1 (fun HT_ HW_ => ?_)
 generalize w7.drew = w8 at BK243 HB hHeld ⊢
 refine pure_ (i := 0) (N := some 15) (v := ?_) (a' := ?_) #[true, false, false, false, false, false, false, false, false, false, false, false, false, false, false] rfl rfl (any_of HT_.out (by kernel_rfl)) (fun _ _ _ h => h) (Or.inl ⟨by rfl, ?_⟩) ?_ ?_
 rotate_left
 ·intro w'
  go_simp
  with_reducible rfl
 rotate_left
 ·simp only [Act.put, List.setIfInBounds_toArray, List.set_cons_zero, List.set_cons_succ, i64_w, i32_w]
  rfl
 refine pure_ (i := 3) (N := some 18) (v := ?_) (a' := ?_) #[true, false, false, true, false, false, false, false, false, false, false, false, false, false, false] rfl rfl (any_of HT_.out (by kernel_rfl)) (fun _ _ _ h => h) (Or.inl ⟨by rfl, ?_⟩) ?_ ?_
 rotate_left
 ·intro w'
  go_simp
  with_reducible rfl
 rotate_left
 ·simp only [Act.put, List.setIfInBounds_toArray, List.set_cons_zero, List.set_cons_succ, i64_w, i32_w]
  rfl
 refine take_ (i := 2) (N := some 17) (v := ?_) (a' := ?_) #[true, false, true, true, false, false, false, false, false, false, false, false, false, false, false] rfl rfl (take_ofW HT_.out HW_.out (by kernel_rfl)) (fun _ _ _ h => h) (Or.inl ⟨by rfl, ?_⟩) hHeld ?_ ?_
 rotate_left
 ·rintro w' ⟨s0, s1⟩
  go_simp
  with_reducible rfl
 rotate_left
 ·simp only [Act.put, List.setIfInBounds_toArray, List.set_cons_zero, List.set_cons_succ, i64_w, i32_w]
  rfl
 refine join_ (σ := Value × Nat) 4 #[true, true, true, true, true, true, true, true, true, true, true, false, false, false, false] (fun s_ => [(16, s_.1), (19, .tuple #[.int .i64 t247, .agg #[.int .i64 t248, .int .i64 t249], .int .i64 t250, .int .i64 t251]), (8, .pointer (some ⟨s_.2, 0, none⟩)), (14, .tuple #[.int .i64 t247, .agg #[.int .i64 t248, .int .i64 t249], .int .i64 t250, .int .i64 t251]), (20, .int .i64 t247), (21, .agg #[.int .i64 t248, .int .i64 t249]), (22, .int .i64 t250), (23, .int .i64 t251)]) (fun s_ w' => (w'.cell? ⟨gb243, 0, none⟩ = some (.int .i64 a1_0) ∧ w'.cell? ⟨gb243, 1, none⟩ = some (.int .i64 a1_1)) ∧ (Kd.R k57 57 w' w.heap.size (fun _ => True) s_.1 t244) ∧ (w'.heap[gb243]? = some (.cells #[.int .i64 a1_0, .int .i64 a1_1] 23 (0, 0))) ∧ (w'.heap[s_.2]? = some (.cells #[.int .i64 0, .int .i64 0] 23 (0, 0))) ∧ (w.heap.size ≤ s_.2) ∧ (w.heap.size ≤ s_.2) ∧ (gb243 ≠ s_.2) ∧ (s_.2 ≠ gb243) ∧ (Below w.heap.size w w')) ?_ ?_
 rotate_left
 ·intro hCont
  refine two_ (i := 1) (j := 10) (Ni := some 16) (Nj := some 8) #[true, true, true, true, false, false, false, false, false, false, false, false, false, false, false] #[true, false, true, true, false, false, false, false, false, false, true, false, false, false, false] rfl rfl rfl rfl (two_of HT_.out (by kernel_rfl)) (by decide) (by decide) (fun K hK => ?_) (fun K hK => ?_)
  ·skip
   refine goes_ Try.func11 (by kernel_rfl) rfl #[.slice A0 l0.length c0] (by rfl) rfl rfl al_ ?_
   with_reducible refine (comfitlaw06_Of.calls k _ _ l0 t244 _ ?side1 ?side2 A4.out).mono ?_
   (case side1 => exact kc_ (Kd.C_below HR0.out HB.out))
   (case side2 => exact HC0.out)
   rintro e w9 ⟨v245, rfl, ho0, hb⟩
   refine ⟨_, rfl, ?_⟩
   have n0_ := Aside0.mk (Kd.R_lower ho0 (below_size (hb_ HB.out)))
   have n1_ := Aside0.mk (bkb_ BK243.out hb)
   have n2_ := Aside0.mk (below_step (hb_ HB.out) hb)
   clear BK243
   clear HB
   have HO246 := n0_
   have BK243 := n1_
   have HB := n2_
   clear n0_ n1_ n2_
   (try clear hb)
   (try clear hb2)
   (try clear hk)
   (try clear hi)
   (try clear ho0)
   obtain ⟨Ao10, co10, eo10⟩ := Kd.R_slice HO246.out
   (first | subst eo10 | (injection eo10 with f1_ f2_ f3_; have f4_ := f1_.symm; have f5_ := f3_.symm; clear f1_ f2_ f3_; subst f4_; subst f5_))
   refine hK.out _ _ ⟨(blk_cell BK243.out 0).trans rfl, (blk_cell BK243.out 1).trans rfl⟩ (fun hHeld => ?_)
   clear hK K
   refine norm_ (a' := ?_) ?_ ?_
   rotate_left
   ·show Act.put _ (some 16) _ = _
    simp only [Act.put, List.setIfInBounds_toArray, List.set_cons_zero, List.set_cons_succ, i64_w, i32_w]
    rfl
   refine two_ (i := 4) (j := 10) (Ni := some 19) (Nj := some 8) #[true, true, true, true, true, false, false, false, false, false, false, false, false, false, false] #[true, true, true, true, false, false, false, false, false, false, true, false, false, false, false] rfl rfl rfl rfl (two_of HT_.out (by kernel_rfl)) (by decide) (by decide) (fun K hK => ?_) (fun K hK => ?_)
   ·skip
    refine goes_ Try.func10 (by kernel_rfl) rfl #[.slice Ao10 t244.length co10, .agg #[.int .i64 a1_0, .int .i64 a1_1], .int .i64 a2] (by rfl) rfl rfl al_ ?_
    with_reducible refine (tags_Go.calls k _ _ t244 a1_0 a1_1 a2 t247 t248 t249 t250 t251 _ ?side1 ?side2 A5.out).mono ?_
    (case side1 => exact kc_ (Kd.R_reads' HO246.out).2.2)
    (case side2 => exact (Kd.R_reads' HO246.out).2.1)
    rintro e w11 ⟨rfl, hb⟩
    refine ⟨_, rfl, ?_⟩
    have n0_ := Aside0.mk (Kd.R_below (kr_ (HO246.out)) hb)
    have n1_ := Aside0.mk (bkb_ BK243.out hb)
    have n2_ := Aside0.mk (below_step (hb_ HB.out) hb)
    clear HO246
    clear BK243
    clear HB
    have HO246 := n0_
    have BK243 := n1_
    have HB := n2_
    clear n0_ n1_ n2_
    (try clear hb)
    (try clear hb2)
    (try clear hk)
    (try clear hi)
    refine hK.out _ _ ⟨(blk_cell BK243.out 0).trans rfl, (blk_cell BK243.out 1).trans rfl⟩ (fun hHeld => ?_)
    clear hK K
    refine norm_ (a' := ?_) ?_ ?_
    rotate_left
    ·show Act.put _ (some 19) _ = _
     simp only [Act.put, List.setIfInBounds_toArray, List.set_cons_zero, List.set_cons_succ, i64_w, i32_w]
     rfl
    refine pure_ (i := 5) (N := some 14) (v := ?_) (a' := ?_) #[true, true, true, true, true, true, false, false, false, false, false, false, false, false, false] rfl rfl (any_of HT_.out (by kernel_rfl)) (fun _ _ _ h => h) (Or.inl ⟨by rfl, ?_⟩) ?_ ?_
    rotate_left
    ·intro w'
     go_simp
     with_reducible rfl
    rotate_left
    ·simp only [Act.put, List.setIfInBounds_toArray, List.set_cons_zero, List.set_cons_succ, i64_w, i32_w]
     rfl
    refine pure_ (i := 6) (N := some 20) (v := ?_) (a' := ?_) #[true, true, true, true, true, true, true, false, false, false, false, false, false, false, false] rfl rfl (any_of HT_.out (by kernel_rfl)) (fun _ _ _ h => h) (Or.inl ⟨by rfl, ?_⟩) ?_ ?_
    rotate_left
    ·intro w'
     go_simp
     with_reducible rfl
    rotate_left
    ·simp only [Act.put, List.setIfInBounds_toArray, List.set_cons_zero, List.set_cons_succ, i64_w, i32_w]
     rfl
    refine pure_ (i := 7) (N := some 21) (v := ?_) (a' := ?_) #[true, true, true, true, true, true, true, true, false, false, false, false, false, false, false] rfl rfl (any_of HT_.out (by kernel_rfl)) (fun _ _ _ h => h) (Or.inl ⟨by rfl, ?_⟩) ?_ ?_
    rotate_left
    ·intro w'
     go_simp
     with_reducible rfl
    rotate_left
    ·simp only [Act.put, List.setIfInBounds_toArray, List.set_cons_zero, List.set_cons_succ, i64_w, i32_w]
     rfl
    refine pure_ (i := 8) (N := some 22) (v := ?_) (a' := ?_) #[true, true, true, true, true, true, true, true, true, false, false, false, false, false, false] rfl rfl (any_of HT_.out (by kernel_rfl)) (fun _ _ _ h => h) (Or.inl ⟨by rfl, ?_⟩) ?_ ?_
    rotate_left
    ·intro w'
     go_simp
     with_reducible rfl
    rotate_left
    ·simp only [Act.put, List.setIfInBounds_toArray, List.set_cons_zero, List.set_cons_succ, i64_w, i32_w]
     rfl
    refine pure_ (i := 9) (N := some 23) (v := ?_) (a' := ?_) #[true, true, true, true, true, true, true, true, true, true, false, false, false, false, false] rfl rfl (any_of HT_.out (by kernel_rfl)) (fun _ _ _ h => h) (Or.inl ⟨by rfl, ?_⟩) ?_ ?_
    rotate_left
    ·intro w'
     go_simp
     with_reducible rfl
    rotate_left
    ·simp only [Act.put, List.setIfInBounds_toArray, List.set_cons_zero, List.set_cons_succ, i64_w, i32_w]
     rfl
    refine one_ (i := 10) (N := some 8) #[true, true, true, true, true, true, true, true, true, true, true, false, false, false, false] rfl rfl (one_of HT_.out (by kernel_rfl)) (by decide) (fun K hK => ?_)
    refine box_step ?hg (N := 8) ?hd (cs := #[.int .i64 0, .int .i64 0]) (t := 23) ?hr ?_; (case hd => rfl); (case hg => rfl); (case hr => first | (go_simp; done) | (go_simp; rfl))
    intro gb252 hg w12 hbox hb
    have n0_ := Aside0.mk (Kd.R_below (kr_ (HO246.out)) hb)
    have n1_ := Aside0.mk (bkb_ BK243.out hb)
    have n2_ := Aside0.mk (below_step (hb_ HB.out) hb)
    have n3_ := Aside0.mk (hbox)
    have n4_ := Aside0.mk ((by rw [hg]; exact (below_size (hb_ HB.out)) : w.heap.size ≤ gb252))
    have n5_ := Aside0.mk ((by rw [hg]; exact (below_size (hb_ HB.out)) : w.heap.size ≤ gb252))
    have n6_ := Aside0.mk ((by rw [hg]; exact Nat.ne_of_lt (bkl_ BK243.out) : gb243 ≠ gb252))
    have n7_ := Aside0.mk ((by rw [hg]; exact Nat.ne_of_gt (bkl_ BK243.out) : gb252 ≠ gb243))
    clear HO246
    clear BK243
    clear HB
    have HO246 := n0_
    have BK243 := n1_
    have HB := n2_
    have BK252 := n3_
    have GW252 := n4_
    have GE252 := n5_
    have NB243_252 := n6_
    have NB252_243 := n7_
    clear n0_ n1_ n2_ n3_ n4_ n5_ n6_ n7_
    clear hb hbox hg
    refine hK.out _ _ ⟨(blk_cell BK243.out 0).trans rfl, (blk_cell BK243.out 1).trans rfl⟩ (fun hHeld => ?_)
    clear hK K
    refine norm_ (a' := ?_) ?_ ?_
    rotate_left
    ·show Act.put _ (some 8) _ = _
     simp only [Act.put, List.setIfInBounds_toArray, List.set_cons_zero, List.set_cons_succ, i64_w, i32_w]
     rfl
    exact norm_ (by simp only [putAll, Act.put, List.setIfInBounds_toArray, List.set_cons_zero, List.set_cons_succ]) (hCont (.slice Ao10 t244.length co10, gb252) _ ⟨hHeld, (kr_ (HO246.out)), (bk_ BK243.out), (bk_ BK252.out), GW252.out, GE252.out, NB243_252.out, NB252_243.out, (hb_ HB.out)⟩)
   ·skip
    refine box_step ?hg (N := 8) ?hd (cs := #[.int .i64 0, .int .i64 0]) (t := 23) ?hr ?_; (case hd => rfl); (case hg => rfl); (case hr => first | (go_simp; done) | (go_simp; rfl))
    intro gb252 hg w10 hbox hb
    have n0_ := Aside0.mk (Kd.R_below (kr_ (HO246.out)) hb)
    have n1_ := Aside0.mk (bkb_ BK243.out hb)
    have n2_ := Aside0.mk (below_step (hb_ HB.out) hb)
    have n3_ := Aside0.mk (hbox)
    have n4_ := Aside0.mk ((by rw [hg]; exact (below_size (hb_ HB.out)) : w.heap.size ≤ gb252))
    have n5_ := Aside0.mk ((by rw [hg]; exact (below_size (hb_ HB.out)) : w.heap.size ≤ gb252))
    have n6_ := Aside0.mk ((by rw [hg]; exact Nat.ne_of_lt (bkl_ BK243.out) : gb243 ≠ gb252))
    have n7_ := Aside0.mk ((by rw [hg]; exact Nat.ne_of_gt (bkl_ BK243.out) : gb252 ≠ gb243))
    clear HO246
    clear BK243
    clear HB
    have HO246 := n0_
    have BK243 := n1_
    have HB := n2_
    have BK252 := n3_
    have GW252 := n4_
    have GE252 := n5_
    have NB243_252 := n6_
    have NB252_243 := n7_
    clear n0_ n1_ n2_ n3_ n4_ n5_ n6_ n7_
    clear hb hbox hg
    obtain ⟨Ao11, co11, eo11⟩ := Kd.R_slice HO246.out
    (first | subst eo11 | (injection eo11 with f1_ f2_ f3_; have f4_ := f1_.symm; have f5_ := f3_.symm; clear f1_ f2_ f3_; subst f4_; subst f5_))
    refine hK.out _ _ ⟨(blk_cell BK243.out 0).trans rfl, (blk_cell BK243.out 1).trans rfl⟩ (fun hHeld => ?_)
    clear hK K
    refine norm_ (a' := ?_) ?_ ?_
    rotate_left
    ·show Act.put _ (some 8) _ = _
     simp only [Act.put, List.setIfInBounds_toArray, List.set_cons_zero, List.set_cons_succ, i64_w, i32_w]
     rfl
    refine one_ (i := 4) (N := some 19) #[true, true, true, true, true, false, false, false, false, false, true, false, false, false, false] rfl rfl (one_of HT_.out (by kernel_rfl)) (by decide) (fun K hK => ?_)
    refine goes_ Try.func10 (by kernel_rfl) rfl #[.slice Ao11 t244.length co11, .agg #[.int .i64 a1_0, .int .i64 a1_1], .int .i64 a2] (by rfl) rfl rfl al_ ?_
    with_reducible refine (tags_Go.calls k _ _ t244 a1_0 a1_1 a2 t247 t248 t249 t250 t251 _ ?side1 ?side2 A5.out).mono ?_
    (case side1 => exact kc_ (Kd.R_reads' HO246.out).2.2)
    (case side2 => exact (Kd.R_reads' HO246.out).2.1)
    rintro e w12 ⟨rfl, hb⟩
    refine ⟨_, rfl, ?_⟩
    have n0_ := Aside0.mk (Kd.R_below (kr_ (HO246.out)) hb)
    have n1_ := Aside0.mk (bkb_ BK243.out hb)
    have n2_ := Aside0.mk (bkb_ BK252.out hb)
    have n3_ := Aside0.mk (below_step (hb_ HB.out) hb)
    clear HO246
    clear BK243
    clear BK252
    clear HB
    have HO246 := n0_
    have BK243 := n1_
    have BK252 := n2_
    have HB := n3_
    clear n0_ n1_ n2_ n3_
    (try clear hb)
    (try clear hb2)
    (try clear hk)
    (try clear hi)
    refine hK.out _ _ ⟨(blk_cell BK243.out 0).trans rfl, (blk_cell BK243.out 1).trans rfl⟩ (fun hHeld => ?_)
    clear hK K
    refine norm_ (a' := ?_) ?_ ?_
    rotate_left
    ·show Act.put _ (some 19) _ = _
     simp only [Act.put, List.setIfInBounds_toArray, List.set_cons_zero, List.set_cons_succ, i64_w, i32_w]
     rfl
    refine pure_ (i := 5) (N := some 14) (v := ?_) (a' := ?_) #[true, true, true, true, true, true, false, false, false, false, true, false, false, false, false] rfl rfl (any_of HT_.out (by kernel_rfl)) (fun _ _ _ h => h) (Or.inl ⟨by rfl, ?_⟩) ?_ ?_
    rotate_left
    ·intro w'
     go_simp
     with_reducible rfl
    rotate_left
    ·simp only [Act.put, List.setIfInBounds_toArray, List.set_cons_zero, List.set_cons_succ, i64_w, i32_w]
     rfl
    refine pure_ (i := 6) (N := some 20) (v := ?_) (a' := ?_) #[true, true, true, true, true, true, true, false, false, false, true, false, false, false, false] rfl rfl (any_of HT_.out (by kernel_rfl)) (fun _ _ _ h => h) (Or.inl ⟨by rfl, ?_⟩) ?_ ?_
    rotate_left
    ·intro w'
     go_simp
     with_reducible rfl
    rotate_left
    ·simp only [Act.put, List.setIfInBounds_toArray, List.set_cons_zero, List.set_cons_succ, i64_w, i32_w]
     rfl
    refine pure_ (i := 7) (N := some 21) (v := ?_) (a' := ?_) #[true, true, true, true, true, true, true, true, false, false, true, false, false, false, false] rfl rfl (any_of HT_.out (by kernel_rfl)) (fun _ _ _ h => h) (Or.inl ⟨by rfl, ?_⟩) ?_ ?_
    rotate_left
    ·intro w'
     go_simp
     with_reducible rfl
    rotate_left
    ·simp only [Act.put, List.setIfInBounds_toArray, List.set_cons_zero, List.set_cons_succ, i64_w, i32_w]
     rfl
    refine pure_ (i := 8) (N := some 22) (v := ?_) (a' := ?_) #[true, true, true, true, true, true, true, true, true, false, true, false, false, false, false] rfl rfl (any_of HT_.out (by kernel_rfl)) (fun _ _ _ h => h) (Or.inl ⟨by rfl, ?_⟩) ?_ ?_
    rotate_left
    ·intro w'
     go_simp
     with_reducible rfl
    rotate_left
    ·simp only [Act.put, List.setIfInBounds_toArray, List.set_cons_zero, List.set_cons_succ, i64_w, i32_w]
     rfl
    refine pure_ (i := 9) (N := some 23) (v := ?_) (a' := ?_) #[true, true, true, true, true, true, true, true, true, true, true, false, false, false, false] rfl rfl (any_of HT_.out (by kernel_rfl)) (fun _ _ _ h => h) (Or.inl ⟨by rfl, ?_⟩) ?_ ?_
    rotate_left
    ·intro w'
     go_simp
     with_reducible rfl
    rotate_left
    ·simp only [Act.put, List.setIfInBounds_toArray, List.set_cons_zero, List.set_cons_succ, i64_w, i32_w]
     rfl
    exact norm_ (by simp only [putAll, Act.put, List.setIfInBounds_toArray, List.set_cons_zero, List.set_cons_succ]) (hCont (.slice Ao11 t244.length co11, gb252) _ ⟨hHeld, (kr_ (HO246.out)), (bk_ BK243.out), (bk_ BK252.out), GW252.out, GE252.out, NB243_252.out, NB252_243.out, (hb_ HB.out)⟩)
  ·skip
   refine box_step ?hg (N := 8) ?hd (cs := #[.int .i64 0, .int .i64 0]) (t := 23) ?hr ?_; (case hd => rfl); (case hg => rfl); (case hr => first | (go_simp; done) | (go_simp; rfl))
   intro gb252 hg w9 hbox hb
   have n0_ := Aside0.mk (bkb_ BK243.out hb)
   have n1_ := Aside0.mk (below_step (hb_ HB.out) hb)
   have n2_ := Aside0.mk (hbox)
   have n3_ := Aside0.mk ((by rw [hg]; exact (below_size (hb_ HB.out)) : w.heap.size ≤ gb252))
   have n4_ := Aside0.mk ((by rw [hg]; exact (below_size (hb_ HB.out)) : w.heap.size ≤ gb252))
   have n5_ := Aside0.mk ((by rw [hg]; exact Nat.ne_of_lt (bkl_ BK243.out) : gb243 ≠ gb252))
   have n6_ := Aside0.mk ((by rw [hg]; exact Nat.ne_of_gt (bkl_ BK243.out) : gb252 ≠ gb243))
   clear BK243
   clear HB
   have BK243 := n0_
   have HB := n1_
   have BK252 := n2_
   have GW252 := n3_
   have GE252 := n4_
   have NB243_252 := n5_
   have NB252_243 := n6_
   clear n0_ n1_ n2_ n3_ n4_ n5_ n6_
   clear hb hbox hg
   refine hK.out _ _ ⟨(blk_cell BK243.out 0).trans rfl, (blk_cell BK243.out 1).trans rfl⟩ (fun hHeld => ?_)
   clear hK K
   refine norm_ (a' := ?_) ?_ ?_
   rotate_left
   ·show Act.put _ (some 8) _ = _
    simp only [Act.put, List.setIfInBounds_toArray, List.set_cons_zero, List.set_cons_succ, i64_w, i32_w]
    rfl
   refine one_ (i := 1) (N := some 16) #[true, true, true, true, false, false, false, false, false, false, true, false, false, false, false] rfl rfl (one_of HT_.out (by kernel_rfl)) (by decide) (fun K hK => ?_)
   refine goes_ Try.func11 (by kernel_rfl) rfl #[.slice A0 l0.length c0] (by rfl) rfl rfl al_ ?_
   with_reducible refine (comfitlaw06_Of.calls k _ _ l0 t244 _ ?side1 ?side2 A4.out).mono ?_
   (case side1 => exact kc_ (Kd.C_below HR0.out HB.out))
   (case side2 => exact HC0.out)
   rintro e w10 ⟨v245, rfl, ho0, hb⟩
   refine ⟨_, rfl, ?_⟩
   have n0_ := Aside0.mk (Kd.R_lower ho0 (below_size (hb_ HB.out)))
   have n1_ := Aside0.mk (bkb_ BK243.out hb)
   have n2_ := Aside0.mk (bkb_ BK252.out hb)
   have n3_ := Aside0.mk (below_step (hb_ HB.out) hb)
   clear BK243
   clear BK252
   clear HB
   have HO246 := n0_
   have BK243 := n1_
   have BK252 := n2_
   have HB := n3_
   clear n0_ n1_ n2_ n3_
   (try clear hb)
   (try clear hb2)
   (try clear hk)
   (try clear hi)
   (try clear ho0)
   obtain ⟨Ao11, co11, eo11⟩ := Kd.R_slice HO246.out
   (first | subst eo11 | (injection eo11 with f1_ f2_ f3_; have f4_ := f1_.symm; have f5_ := f3_.symm; clear f1_ f2_ f3_; subst f4_; subst f5_))
   refine hK.out _ _ ⟨(blk_cell BK243.out 0).trans rfl, (blk_cell BK243.out 1).trans rfl⟩ (fun hHeld => ?_)
   clear hK K
   refine norm_ (a' := ?_) ?_ ?_
   rotate_left
   ·show Act.put _ (some 16) _ = _
    simp only [Act.put, List.setIfInBounds_toArray, List.set_cons_zero, List.set_cons_succ, i64_w, i32_w]
    rfl
   refine one_ (i := 4) (N := some 19) #[true, true, true, true, true, false, false, false, false, false, true, false, false, false, false] rfl rfl (one_of HT_.out (by kernel_rfl)) (by decide) (fun K hK => ?_)
   refine goes_ Try.func10 (by kernel_rfl) rfl #[.slice Ao11 t244.length co11, .agg #[.int .i64 a1_0, .int .i64 a1_1], .int .i64 a2] (by rfl) rfl rfl al_ ?_
   with_reducible refine (tags_Go.calls k _ _ t244 a1_0 a1_1 a2 t247 t248 t249 t250 t251 _ ?side1 ?side2 A5.out).mono ?_
   (case side1 => exact kc_ (Kd.R_reads' HO246.out).2.2)
   (case side2 => exact (Kd.R_reads' HO246.out).2.1)
   rintro e w12 ⟨rfl, hb⟩
   refine ⟨_, rfl, ?_⟩
   have n0_ := Aside0.mk (Kd.R_below (kr_ (HO246.out)) hb)
   have n1_ := Aside0.mk (bkb_ BK243.out hb)
   have n2_ := Aside0.mk (bkb_ BK252.out hb)
   have n3_ := Aside0.mk (below_step (hb_ HB.out) hb)
   clear HO246
   clear BK243
   clear BK252
   clear HB
   have HO246 := n0_
   have BK243 := n1_
   have BK252 := n2_
   have HB := n3_
   clear n0_ n1_ n2_ n3_
   (try clear hb)
   (try clear hb2)
   (try clear hk)
   (try clear hi)
   refine hK.out _ _ ⟨(blk_cell BK243.out 0).trans rfl, (blk_cell BK243.out 1).trans rfl⟩ (fun hHeld => ?_)
   clear hK K
   refine norm_ (a' := ?_) ?_ ?_
   rotate_left
   ·show Act.put _ (some 19) _ = _
    simp only [Act.put, List.setIfInBounds_toArray, List.set_cons_zero, List.set_cons_succ, i64_w, i32_w]
    rfl
   refine pure_ (i := 5) (N := some 14) (v := ?_) (a' := ?_) #[true, true, true, true, true, true, false, false, false, false, true, false, false, false, false] rfl rfl (any_of HT_.out (by kernel_rfl)) (fun _ _ _ h => h) (Or.inl ⟨by rfl, ?_⟩) ?_ ?_
   rotate_left
   ·intro w'
    go_simp
    with_reducible rfl
   rotate_left
   ·simp only [Act.put, List.setIfInBounds_toArray, List.set_cons_zero, List.set_cons_succ, i64_w, i32_w]
    rfl
   refine pure_ (i := 6) (N := some 20) (v := ?_) (a' := ?_) #[true, true, true, true, true, true, true, false, false, false, true, false, false, false, false] rfl rfl (any_of HT_.out (by kernel_rfl)) (fun _ _ _ h => h) (Or.inl ⟨by rfl, ?_⟩) ?_ ?_
   rotate_left
   ·intro w'
    go_simp
    with_reducible rfl
   rotate_left
   ·simp only [Act.put, List.setIfInBounds_toArray, List.set_cons_zero, List.set_cons_succ, i64_w, i32_w]
    rfl
   refine pure_ (i := 7) (N := some 21) (v := ?_) (a' := ?_) #[true, true, true, true, true, true, true, true, false, false, true, false, false, false, false] rfl rfl (any_of HT_.out (by kernel_rfl)) (fun _ _ _ h => h) (Or.inl ⟨by rfl, ?_⟩) ?_ ?_
   rotate_left
   ·intro w'
    go_simp
    with_reducible rfl
   rotate_left
   ·simp only [Act.put, List.setIfInBounds_toArray, List.set_cons_zero, List.set_cons_succ, i64_w, i32_w]
    rfl
   refine pure_ (i := 8) (N := some 22) (v := ?_) (a' := ?_) #[true, true, true, true, true, true, true, true, true, false, true, false, false, false, false] rfl rfl (any_of HT_.out (by kernel_rfl)) (fun _ _ _ h => h) (Or.inl ⟨by rfl, ?_⟩) ?_ ?_
   rotate_left
   ·intro w'
    go_simp
    with_reducible rfl
   rotate_left
   ·simp only [Act.put, List.setIfInBounds_toArray, List.set_cons_zero, List.set_cons_succ, i64_w, i32_w]
    rfl
   refine pure_ (i := 9) (N := some 23) (v := ?_) (a' := ?_) #[true, true, true, true, true, true, true, true, true, true, true, false, false, false, false] rfl rfl (any_of HT_.out (by kernel_rfl)) (fun _ _ _ h => h) (Or.inl ⟨by rfl, ?_⟩) ?_ ?_
   rotate_left
   ·intro w'
    go_simp
    with_reducible rfl
   rotate_left
   ·simp only [Act.put, List.setIfInBounds_toArray, List.set_cons_zero, List.set_cons_succ, i64_w, i32_w]
    rfl
   exact norm_ (by simp only [putAll, Act.put, List.setIfInBounds_toArray, List.set_cons_zero, List.set_cons_succ]) (hCont (.slice Ao11 t244.length co11, gb252) _ ⟨hHeld, (kr_ (HO246.out)), (bk_ BK243.out), (bk_ BK252.out), GW252.out, GE252.out, NB243_252.out, NB252_243.out, (hb_ HB.out)⟩)
 rintro ⟨v245, gb252⟩ w13 ⟨hS_, h0_, h1_, h2_, h3_, h4_, h5_, h6_, h7_⟩
 have n0_ : Aside0 (Kd.R k57 57 w13 w.heap.size (fun _ => True) v245 t244) := ⟨h0_⟩
 have n1_ : Aside0 (w13.heap[gb243]? = some (.cells #[.int .i64 a1_0, .int .i64 a1_1] 23 (0, 0))) := ⟨h1_⟩
 have n2_ : Aside0 (w13.heap[gb252]? = some (.cells #[.int .i64 0, .int .i64 0] 23 (0, 0))) := ⟨h2_⟩
 have n3_ : Aside0 (w.heap.size ≤ gb252) := ⟨h3_⟩
 have n4_ : Aside0 (w.heap.size ≤ gb252) := ⟨h4_⟩
 have n5_ : Aside0 (gb243 ≠ gb252) := ⟨h5_⟩
 have n6_ : Aside0 (gb252 ≠ gb243) := ⟨h6_⟩
 have n7_ : Aside0 (Below w.heap.size w w13) := ⟨h7_⟩
 clear BK243
 clear HB
 clear h0_ h1_ h2_ h3_ h4_ h5_ h6_ h7_
 have HO246 := n0_
 have BK243 := n1_
 have BK252 := n2_
 have GW252 := n3_
 have GE252 := n4_
 have NB243_252 := n5_
 have NB252_243 := n6_
 have HB := n7_
 clear n0_ n1_ n2_ n3_ n4_ n5_ n6_ n7_
 have hHeld : w13.cell? ⟨gb243, 0, none⟩ = some (.int .i64 a1_0) ∧ w13.cell? ⟨gb243, 1, none⟩ = some (.int .i64 a1_1) := hS_
 refine norm_ (a' := ?_) ?_ ?_
 rotate_left
 ·simp only [putAll, Act.put, List.setIfInBounds_toArray, List.set_cons_zero, List.set_cons_succ]
  rfl
 refine pure_ (i := 11) (N := some 7) (v := ?_) (a' := ?_) #[true, true, true, true, true, true, true, true, true, true, true, true, false, false, false] rfl rfl (any_of HT_.out (by kernel_rfl)) (fun _ _ _ h => h) (Or.inl ⟨by rfl, ?_⟩) ?_ ?_
 rotate_left
 ·intro w'
  go_simp
  with_reducible rfl
 rotate_left
 ·simp only [Act.put, List.setIfInBounds_toArray, List.set_cons_zero, List.set_cons_succ, i64_w, i32_w]
  rfl
 refine one_ (i := 12) (N := none) #[true, true, true, true, true, true, true, true, true, true, true, true, true, false, false] rfl rfl (one_of HT_.out (by kernel_rfl)) (by decide) (fun K hK => ?_)
 have hs14 : w13.cell? ⟨gb252, 0, none⟩ = some (.int .i64 0) := (blk_cell BK252.out 0).trans rfl
 have hfs14 := blk_frozen BK252.out 0
 have hns14_0 := NB243_252.out
 have hms14_0 := NB252_243.out
 have hs15 : w13.cell? ⟨gb252, 1, none⟩ = some (.int .i64 0) := (blk_cell BK252.out 1).trans rfl
 have hfs15 := blk_frozen BK252.out 1
 have hns15_0 := NB243_252.out
 have hms15_0 := NB252_243.out
 refine skip_ (w1 := ?_) (by rfl) rfl ?_ ?_
 rotate_left
 ·go_simp
  rfl
 refine hK.out _ _ ⟨((cell_far (p := ⟨gb252, _, none⟩) NB243_252.out _).trans (((cell_far (p := ⟨gb252, _, none⟩) NB243_252.out _).trans (hHeld.1)))), ((cell_far (p := ⟨gb252, _, none⟩) NB243_252.out _).trans (((cell_far (p := ⟨gb252, _, none⟩) NB243_252.out _).trans (hHeld.2))))⟩ (fun hHeld => ?_)
 clear hK K
 refine pure_ (i := 13) (N := some 9) (v := ?_) (a' := ?_) #[true, true, true, true, true, true, true, true, true, true, true, true, true, true, false] rfl rfl (any_of HT_.out (by kernel_rfl)) (fun _ _ _ h => h) (Or.inl ⟨by rfl, ?_⟩) ?_ ?_
 rotate_left
 ·intro w'
  go_simp
  with_reducible rfl
 rotate_left
 ·simp only [Act.put, List.setIfInBounds_toArray, List.set_cons_zero, List.set_cons_succ, i64_w, i32_w]
  rfl
 refine pure_ (i := 14) (N := some 10) (v := ?_) (a' := ?_) #[true, true, true, true, true, true, true, true, true, true, true, true, true, true, true] rfl rfl (any_of HT_.out (by kernel_rfl)) (fun _ _ _ h => h) (Or.inl ⟨by rfl, ?_⟩) ?_ ?_
 rotate_left
 ·intro w'
  go_simp
  with_reducible rfl
 rotate_left
 ·simp only [Act.put, List.setIfInBounds_toArray, List.set_cons_zero, List.set_cons_succ, i64_w, i32_w]
  rfl
 refine done_ (done_of HT_.out (by kernel_rfl)) ?_
 go_upto_region 2 with (fail)
 go_cut [39] (fun v39 wc => ∃ (kq : Nat) (x39_5 : Bool), v39 = .bool x39_5 ∧ Aside0 (comfitlaw06_TagsGoes.j0 kq l0 a2 t247 t250 t251 x39_5 a1_0 a1_1 t248 t249 = some r) ∧ Aside0 (kq ≤ k) ∧ Aside0 (wc.heap[gb243]? = some (.cells #[.int .i64 a1_0, .int .i64 a1_1] 23 (0, 0))) ∧ Aside0 (wc.heap[gb252]? = some (.cells #[.int .i64 t248, .int .i64 t249] 23 (0, 0))) ∧ Aside0 (Below w.heap.size w wc))
 case first =>
  have H := HC6.out
  clear HC6
  replace H := Option.bind_eq_some_iff.mp H
  obtain ⟨t253, A160, H⟩ := H
  replace H : (if t253 = true then ((comfitref06_Jars.f a1_0 a1_1).bind fun t254 => (if t254 = true then (if a2 < 0 then (comfitlaw06_TagsGoes.j0 k l0 a2 t247 t250 t251 true a1_0 a1_1 t248 t249) else (comfitlaw06_TagsGoes.j0 k l0 a2 t247 t250 t251 (decide (a2 > 1000)) a1_0 a1_1 t248 t249)) else (comfitlaw06_TagsGoes.j0 k l0 a2 t247 t250 t251 true a1_0 a1_1 t248 t249))) else (comfitlaw06_TagsGoes.j0 k l0 a2 t247 t250 t251 true a1_0 a1_1 t248 t249)) = some r := H
  have A16 := Aside0.mk A160
  clear A160
  by_cases c17 : t253 = true
  ·subst c17
   have H1 : ((comfitref06_Jars.f a1_0 a1_1).bind fun t254 => (if t254 = true then (if a2 < 0 then (comfitlaw06_TagsGoes.j0 k l0 a2 t247 t250 t251 true a1_0 a1_1 t248 t249) else (comfitlaw06_TagsGoes.j0 k l0 a2 t247 t250 t251 (decide (a2 > 1000)) a1_0 a1_1 t248 t249)) else (comfitlaw06_TagsGoes.j0 k l0 a2 t247 t250 t251 true a1_0 a1_1 t248 t249))) = some r := by rw [if_pos rfl] at H; exact H
   clear H
   have H := H1
   clear H1
   replace H := Option.bind_eq_some_iff.mp H
   obtain ⟨t254, A180, H⟩ := H
   replace H : (if t254 = true then (if a2 < 0 then (comfitlaw06_TagsGoes.j0 k l0 a2 t247 t250 t251 true a1_0 a1_1 t248 t249) else (comfitlaw06_TagsGoes.j0 k l0 a2 t247 t250 t251 (decide (a2 > 1000)) a1_0 a1_1 t248 t249)) else (comfitlaw06_TagsGoes.j0 k l0 a2 t247 t250 t251 true a1_0 a1_1 t248 t249)) = some r := H
   have A18 := Aside0.mk A180
   clear A180
   by_cases c19 : t254 = true
   ·subst c19
    have H1 : (if a2 < 0 then (comfitlaw06_TagsGoes.j0 k l0 a2 t247 t250 t251 true a1_0 a1_1 t248 t249) else (comfitlaw06_TagsGoes.j0 k l0 a2 t247 t250 t251 (decide (a2 > 1000)) a1_0 a1_1 t248 t249)) = some r := by rw [if_pos rfl] at H; exact H
    clear H
    have H := H1
    clear H1
    by_cases c20 : a2 < 0
    ·rw [if_pos c20] at H
     have c20b0 : decide (a2 < 0) = true := decide_eq_true c20
     clear c20
     (first | rw [c20b0] | (simp only [i64_w, i32_w]; rw [c20b0]) | skip)
     have H' := Aside0.mk H
     clear H
     go_wp2_with (first | ((with_reducible refine gate_callee (f := 12) rfl ?_); refine goesL_ (some 25) rfl rfl Try.func12 (by kernel_rfl) rfl #[.slice A0 l0.length c0] rfl al_ ?_; (with_reducible refine (comfitref06_Machine.calls k _ _ l0 true _ ?side1 ?side2 A16.out).mono ?_); (case side1 => exact Kd.C_below HR0.out (hb_ HB.out)); (case side2 => exact HC0.out); rintro e w21 ⟨rfl, hb⟩; refine ⟨_, rfl, ?_⟩; have n0_ := Aside0.mk (Kd.R_below (by (with_reducible repeat (first | apply Kd.R_alloc | apply Kd.R_drewN | apply Kd.R_drew)); exact (Kd.R_mono (Kd.R_far (p := ⟨gb252, 1, none⟩) (Kd.R_far (p := ⟨gb252, 0, none⟩) (Kd.R_types HO246.out BK252.out (by decide)) (fun _ hk => hk.2) (.int .i64 t248)) (fun _ hk => hk.2) (.int .i64 t249)) (fun _ h_ => h_.1))) hb); have n1_ := Aside0.mk (blk_below (g := gb243) (o := .cells #[.int .i64 a1_0, .int .i64 a1_1] 23 (0, 0)) (by (with_reducible repeat (first | refine blk_drewN ?_ _ | refine blk_drew ?_ | refine blk_alloc ?_ _)); refine blk_far ?_ NB243_252.out _; (with_reducible repeat (first | refine blk_drewN ?_ _ | refine blk_drew ?_ | refine blk_alloc ?_ _)); refine blk_far ?_ NB243_252.out _; (with_reducible repeat (first | refine blk_drewN ?_ _ | refine blk_drew ?_ | refine blk_alloc ?_ _)); exact BK243.out) hb); have n2_ := Aside0.mk (blk_below (g := gb252) (o := .cells #[.int .i64 t248, .int .i64 t249] 23 (0, 0)) (by (with_reducible repeat (first | refine blk_drewN ?_ _ | refine blk_drew ?_ | refine blk_alloc ?_ _)); refine blk_put (cs := #[.int .i64 t248, .int .i64 0]) ?_ 1 _ rfl; (with_reducible repeat (first | refine blk_drewN ?_ _ | refine blk_drew ?_ | refine blk_alloc ?_ _)); refine blk_put (cs := #[.int .i64 0, .int .i64 0]) ?_ 0 _ rfl; (with_reducible repeat (first | refine blk_drewN ?_ _ | refine blk_drew ?_ | refine blk_alloc ?_ _)); exact BK252.out) hb); have n3_ := Aside0.mk (below_step (hb_ HB.out) hb); clear HO246; clear BK243; clear BK252; clear HB; have HO246 := n0_; have BK243 := n1_; have BK252 := n2_; have HB := n3_; clear n0_ n1_ n2_ n3_; (try clear hb); (try clear hb2); (try clear hk); (try clear hi); have hnb22 := NB243_252.out; have hnc22 := NB252_243.out; have hcz23_0 : w21.cell? ⟨gb243, 0, none⟩ = some (.int .i64 a1_0) := (blk_cell BK243.out 0).trans rfl; have hcz23_1 : w21.cell? ⟨gb243, 1, none⟩ = some (.int .i64 a1_1) := (blk_cell BK243.out 1).trans rfl; have hfz23_0 := blk_frozen BK243.out 0; have hfz23_1 := blk_frozen BK243.out 1) | (go_at_call 13; (with_reducible refine (comfitref06_Jars.calls a1_0 a1_1 true _ A18.out).mono ?_); rintro e w24 ⟨rfl, hb⟩; have n0_ := Aside0.mk (Kd.R_below (kr_ (HO246.out)) hb); have n1_ := Aside0.mk (bkb_ BK243.out hb); have n2_ := Aside0.mk (bkb_ BK252.out hb); have n3_ := Aside0.mk (below_step (hb_ HB.out) hb); clear HO246; clear BK243; clear BK252; clear HB; have HO246 := n0_; have BK243 := n1_; have BK252 := n2_; have HB := n3_; clear n0_ n1_ n2_ n3_; (try clear hb); (try clear hb2); (try clear hk); (try clear hi)))
     go_meet
     case rel => exact ⟨_, (true), (by first | rfl | (simp; done) | (simp [*]; done)), H', ⟨by first | omega | exact Nat.le_refl _⟩, ⟨by (with_reducible repeat (first | refine blk_drewN ?_ _ | refine blk_drew ?_ | refine blk_alloc ?_ _)); exact BK243.out⟩, ⟨by (with_reducible repeat (first | refine blk_drewN ?_ _ | refine blk_drew ?_ | refine blk_alloc ?_ _)); exact BK252.out⟩, ⟨by repeat (first | (with_reducible first | exact HB.out | apply below_alloc | apply pw_below_drewN | apply below_drew1 | refine below_set ?_ GE243.out | refine below_set ?_ GE252.out) | exact HB.out)⟩⟩
    ·rw [if_neg c20] at H
     have c20b0 : decide (a2 < 0) = false := decide_eq_false c20
     clear c20
     (first | rw [c20b0] | (simp only [i64_w, i32_w]; rw [c20b0]) | skip)
     have H' := Aside0.mk H
     clear H
     go_wp2_with (first | ((with_reducible refine gate_callee (f := 12) rfl ?_); refine goesL_ (some 25) rfl rfl Try.func12 (by kernel_rfl) rfl #[.slice A0 l0.length c0] rfl al_ ?_; (with_reducible refine (comfitref06_Machine.calls k _ _ l0 true _ ?side1 ?side2 A16.out).mono ?_); (case side1 => exact Kd.C_below HR0.out (hb_ HB.out)); (case side2 => exact HC0.out); rintro e w25 ⟨rfl, hb⟩; refine ⟨_, rfl, ?_⟩; have n0_ := Aside0.mk (Kd.R_below (by (with_reducible repeat (first | apply Kd.R_alloc | apply Kd.R_drewN | apply Kd.R_drew)); exact (Kd.R_mono (Kd.R_far (p := ⟨gb252, 1, none⟩) (Kd.R_far (p := ⟨gb252, 0, none⟩) (Kd.R_types HO246.out BK252.out (by decide)) (fun _ hk => hk.2) (.int .i64 t248)) (fun _ hk => hk.2) (.int .i64 t249)) (fun _ h_ => h_.1))) hb); have n1_ := Aside0.mk (blk_below (g := gb243) (o := .cells #[.int .i64 a1_0, .int .i64 a1_1] 23 (0, 0)) (by (with_reducible repeat (first | refine blk_drewN ?_ _ | refine blk_drew ?_ | refine blk_alloc ?_ _)); refine blk_far ?_ NB243_252.out _; (with_reducible repeat (first | refine blk_drewN ?_ _ | refine blk_drew ?_ | refine blk_alloc ?_ _)); refine blk_far ?_ NB243_252.out _; (with_reducible repeat (first | refine blk_drewN ?_ _ | refine blk_drew ?_ | refine blk_alloc ?_ _)); exact BK243.out) hb); have n2_ := Aside0.mk (blk_below (g := gb252) (o := .cells #[.int .i64 t248, .int .i64 t249] 23 (0, 0)) (by (with_reducible repeat (first | refine blk_drewN ?_ _ | refine blk_drew ?_ | refine blk_alloc ?_ _)); refine blk_put (cs := #[.int .i64 t248, .int .i64 0]) ?_ 1 _ rfl; (with_reducible repeat (first | refine blk_drewN ?_ _ | refine blk_drew ?_ | refine blk_alloc ?_ _)); refine blk_put (cs := #[.int .i64 0, .int .i64 0]) ?_ 0 _ rfl; (with_reducible repeat (first | refine blk_drewN ?_ _ | refine blk_drew ?_ | refine blk_alloc ?_ _)); exact BK252.out) hb); have n3_ := Aside0.mk (below_step (hb_ HB.out) hb); clear HO246; clear BK243; clear BK252; clear HB; have HO246 := n0_; have BK243 := n1_; have BK252 := n2_; have HB := n3_; clear n0_ n1_ n2_ n3_; (try clear hb); (try clear hb2); (try clear hk); (try clear hi); have hnb26 := NB243_252.out; have hnc26 := NB252_243.out; have hcz27_0 : w25.cell? ⟨gb243, 0, none⟩ = some (.int .i64 a1_0) := (blk_cell BK243.out 0).trans rfl; have hcz27_1 : w25.cell? ⟨gb243, 1, none⟩ = some (.int .i64 a1_1) := (blk_cell BK243.out 1).trans rfl; have hfz27_0 := blk_frozen BK243.out 0; have hfz27_1 := blk_frozen BK243.out 1) | (go_at_call 13; (with_reducible refine (comfitref06_Jars.calls a1_0 a1_1 true _ A18.out).mono ?_); rintro e w28 ⟨rfl, hb⟩; have n0_ := Aside0.mk (Kd.R_below (kr_ (HO246.out)) hb); have n1_ := Aside0.mk (bkb_ BK243.out hb); have n2_ := Aside0.mk (bkb_ BK252.out hb); have n3_ := Aside0.mk (below_step (hb_ HB.out) hb); clear HO246; clear BK243; clear BK252; clear HB; have HO246 := n0_; have BK243 := n1_; have BK252 := n2_; have HB := n3_; clear n0_ n1_ n2_ n3_; (try clear hb); (try clear hb2); (try clear hk); (try clear hi)))
     go_meet
     case rel => exact ⟨_, (decide (a2 > 1000)), (by first | rfl | (simp; done) | (simp [*]; done)), H', ⟨by first | omega | exact Nat.le_refl _⟩, ⟨by (with_reducible repeat (first | refine blk_drewN ?_ _ | refine blk_drew ?_ | refine blk_alloc ?_ _)); exact BK243.out⟩, ⟨by (with_reducible repeat (first | refine blk_drewN ?_ _ | refine blk_drew ?_ | refine blk_alloc ?_ _)); exact BK252.out⟩, ⟨by repeat (first | (with_reducible first | exact HB.out | apply below_alloc | apply pw_below_drewN | apply below_drew1 | refine below_set ?_ GE243.out | refine below_set ?_ GE252.out) | exact HB.out)⟩⟩
   ·replace c19 := Bool.eq_false_iff.mpr c19
    subst c19
    have H1 : (comfitlaw06_TagsGoes.j0 k l0 a2 t247 t250 t251 true a1_0 a1_1 t248 t249) = some r := by rw [if_neg (show ¬ (false = true) by decide)] at H; exact H
    clear H
    have H := H1
    clear H1
    have H' := Aside0.mk H
    clear H
    go_wp2_with (first | ((with_reducible refine gate_callee (f := 12) rfl ?_); refine goesL_ (some 25) rfl rfl Try.func12 (by kernel_rfl) rfl #[.slice A0 l0.length c0] rfl al_ ?_; (with_reducible refine (comfitref06_Machine.calls k _ _ l0 true _ ?side1 ?side2 A16.out).mono ?_); (case side1 => exact Kd.C_below HR0.out (hb_ HB.out)); (case side2 => exact HC0.out); rintro e w29 ⟨rfl, hb⟩; refine ⟨_, rfl, ?_⟩; have n0_ := Aside0.mk (Kd.R_below (by (with_reducible repeat (first | apply Kd.R_alloc | apply Kd.R_drewN | apply Kd.R_drew)); exact (Kd.R_mono (Kd.R_far (p := ⟨gb252, 1, none⟩) (Kd.R_far (p := ⟨gb252, 0, none⟩) (Kd.R_types HO246.out BK252.out (by decide)) (fun _ hk => hk.2) (.int .i64 t248)) (fun _ hk => hk.2) (.int .i64 t249)) (fun _ h_ => h_.1))) hb); have n1_ := Aside0.mk (blk_below (g := gb243) (o := .cells #[.int .i64 a1_0, .int .i64 a1_1] 23 (0, 0)) (by (with_reducible repeat (first | refine blk_drewN ?_ _ | refine blk_drew ?_ | refine blk_alloc ?_ _)); refine blk_far ?_ NB243_252.out _; (with_reducible repeat (first | refine blk_drewN ?_ _ | refine blk_drew ?_ | refine blk_alloc ?_ _)); refine blk_far ?_ NB243_252.out _; (with_reducible repeat (first | refine blk_drewN ?_ _ | refine blk_drew ?_ | refine blk_alloc ?_ _)); exact BK243.out) hb); have n2_ := Aside0.mk (blk_below (g := gb252) (o := .cells #[.int .i64 t248, .int .i64 t249] 23 (0, 0)) (by (with_reducible repeat (first | refine blk_drewN ?_ _ | refine blk_drew ?_ | refine blk_alloc ?_ _)); refine blk_put (cs := #[.int .i64 t248, .int .i64 0]) ?_ 1 _ rfl; (with_reducible repeat (first | refine blk_drewN ?_ _ | refine blk_drew ?_ | refine blk_alloc ?_ _)); refine blk_put (cs := #[.int .i64 0, .int .i64 0]) ?_ 0 _ rfl; (with_reducible repeat (first | refine blk_drewN ?_ _ | refine blk_drew ?_ | refine blk_alloc ?_ _)); exact BK252.out) hb); have n3_ := Aside0.mk (below_step (hb_ HB.out) hb); clear HO246; clear BK243; clear BK252; clear HB; have HO246 := n0_; have BK243 := n1_; have BK252 := n2_; have HB := n3_; clear n0_ n1_ n2_ n3_; (try clear hb); (try clear hb2); (try clear hk); (try clear hi); have hnb30 := NB243_252.out; have hnc30 := NB252_243.out; have hcz31_0 : w29.cell? ⟨gb243, 0, none⟩ = some (.int .i64 a1_0) := (blk_cell BK243.out 0).trans rfl; have hcz31_1 : w29.cell? ⟨gb243, 1, none⟩ = some (.int .i64 a1_1) := (blk_cell BK243.out 1).trans rfl; have hfz31_0 := blk_frozen BK243.out 0; have hfz31_1 := blk_frozen BK243.out 1) | (go_at_call 13; (with_reducible refine (comfitref06_Jars.calls a1_0 a1_1 false _ A18.out).mono ?_); rintro e w32 ⟨rfl, hb⟩; have n0_ := Aside0.mk (Kd.R_below (kr_ (HO246.out)) hb); have n1_ := Aside0.mk (bkb_ BK243.out hb); have n2_ := Aside0.mk (bkb_ BK252.out hb); have n3_ := Aside0.mk (below_step (hb_ HB.out) hb); clear HO246; clear BK243; clear BK252; clear HB; have HO246 := n0_; have BK243 := n1_; have BK252 := n2_; have HB := n3_; clear n0_ n1_ n2_ n3_; (try clear hb); (try clear hb2); (try clear hk); (try clear hi)))
    go_meet
    case rel => exact ⟨_, (true), (by first | rfl | (simp; done) | (simp [*]; done)), H', ⟨by first | omega | exact Nat.le_refl _⟩, ⟨by (with_reducible repeat (first | refine blk_drewN ?_ _ | refine blk_drew ?_ | refine blk_alloc ?_ _)); exact BK243.out⟩, ⟨by (with_reducible repeat (first | refine blk_drewN ?_ _ | refine blk_drew ?_ | refine blk_alloc ?_ _)); exact BK252.out⟩, ⟨by repeat (first | (with_reducible first | exact HB.out | apply below_alloc | apply pw_below_drewN | apply below_drew1 | refine below_set ?_ GE243.out | refine below_set ?_ GE252.out) | exact HB.out)⟩⟩
  ·replace c17 := Bool.eq_false_iff.mpr c17
   subst c17
   have H1 : (comfitlaw06_TagsGoes.j0 k l0 a2 t247 t250 t251 true a1_0 a1_1 t248 t249) = some r := by rw [if_neg (show ¬ (false = true) by decide)] at H; exact H
   clear H
   have H := H1
   clear H1
   have H' := Aside0.mk H
   clear H
   go_wp2_with (first | ((with_reducible refine gate_callee (f := 12) rfl ?_); refine goesL_ (some 25) rfl rfl Try.func12 (by kernel_rfl) rfl #[.slice A0 l0.length c0] rfl al_ ?_; (with_reducible refine (comfitref06_Machine.calls k _ _ l0 false _ ?side1 ?side2 A16.out).mono ?_); (case side1 => exact Kd.C_below HR0.out (hb_ HB.out)); (case side2 => exact HC0.out); rintro e w33 ⟨rfl, hb⟩; refine ⟨_, rfl, ?_⟩; have n0_ := Aside0.mk (Kd.R_below (by (with_reducible repeat (first | apply Kd.R_alloc | apply Kd.R_drewN | apply Kd.R_drew)); exact (Kd.R_mono (Kd.R_far (p := ⟨gb252, 1, none⟩) (Kd.R_far (p := ⟨gb252, 0, none⟩) (Kd.R_types HO246.out BK252.out (by decide)) (fun _ hk => hk.2) (.int .i64 t248)) (fun _ hk => hk.2) (.int .i64 t249)) (fun _ h_ => h_.1))) hb); have n1_ := Aside0.mk (blk_below (g := gb243) (o := .cells #[.int .i64 a1_0, .int .i64 a1_1] 23 (0, 0)) (by (with_reducible repeat (first | refine blk_drewN ?_ _ | refine blk_drew ?_ | refine blk_alloc ?_ _)); refine blk_far ?_ NB243_252.out _; (with_reducible repeat (first | refine blk_drewN ?_ _ | refine blk_drew ?_ | refine blk_alloc ?_ _)); refine blk_far ?_ NB243_252.out _; (with_reducible repeat (first | refine blk_drewN ?_ _ | refine blk_drew ?_ | refine blk_alloc ?_ _)); exact BK243.out) hb); have n2_ := Aside0.mk (blk_below (g := gb252) (o := .cells #[.int .i64 t248, .int .i64 t249] 23 (0, 0)) (by (with_reducible repeat (first | refine blk_drewN ?_ _ | refine blk_drew ?_ | refine blk_alloc ?_ _)); refine blk_put (cs := #[.int .i64 t248, .int .i64 0]) ?_ 1 _ rfl; (with_reducible repeat (first | refine blk_drewN ?_ _ | refine blk_drew ?_ | refine blk_alloc ?_ _)); refine blk_put (cs := #[.int .i64 0, .int .i64 0]) ?_ 0 _ rfl; (with_reducible repeat (first | refine blk_drewN ?_ _ | refine blk_drew ?_ | refine blk_alloc ?_ _)); exact BK252.out) hb); have n3_ := Aside0.mk (below_step (hb_ HB.out) hb); clear HO246; clear BK243; clear BK252; clear HB; have HO246 := n0_; have BK243 := n1_; have BK252 := n2_; have HB := n3_; clear n0_ n1_ n2_ n3_; (try clear hb); (try clear hb2); (try clear hk); (try clear hi)))
   go_meet
   case rel => exact ⟨_, (true), (by first | rfl | (simp; done) | (simp [*]; done)), H', ⟨by first | omega | exact Nat.le_refl _⟩, ⟨by (with_reducible repeat (first | refine blk_drewN ?_ _ | refine blk_drew ?_ | refine blk_alloc ?_ _)); exact BK243.out⟩, ⟨by (with_reducible repeat (first | refine blk_drewN ?_ _ | refine blk_drew ?_ | refine blk_alloc ?_ _)); exact BK252.out⟩, ⟨by repeat (first | (with_reducible first | exact HB.out | apply below_alloc | apply pw_below_drewN | apply below_drew1 | refine below_set ?_ GE243.out | refine below_set ?_ GE252.out) | exact HB.out)⟩⟩
 case rest =>
  clear HC6
  try clear c1
  try clear c2
  try clear p2
  try clear c3
  try clear c10
  try clear c11
  try clear c12
  try clear c17
  try clear c19
  try clear c20
  try clear c20b0
  try clear c22
  try clear c26
  try clear c30
  try clear hcz23_0
  try clear hcz23_1
  try clear hcz27_0
  try clear hcz27_1
  try clear hcz31_0
  try clear hcz31_1
  try clear hfz23_0
  try clear hfz23_1
  try clear hfz27_0
  try clear hfz27_1
  try clear hfz31_0
  try clear hfz31_1
  obtain ⟨kq, x39_5, rfl, HA, HJ5, BK243, BK252, HB⟩ := hcut
  cases kq with
  | zero => exact absurd HA.out (by simp [comfitlaw06_TagsGoes.j0])
  | succ kj5 =>
   have H := HA.out
   clear HA
   simp only [comfitlaw06_TagsGoes.j0] at H
   by_cases c34 : x39_5 = true
   ·subst c34
    have H1 : (if t247 = 0 then (if (t248 == 0 && (t249 == 0)) = true then (if t250 = 0 then (if t251 = 2 then ((comfitlaw06_awake.f kj5).bind fun t255 => (some t255)) else (some false)) else (some false)) else (some false)) else (some false)) = some r := by rw [if_pos rfl] at H; exact H
    clear H
    have H := H1
    clear H1
    by_cases c35 : t247 = 0
    ·rw [if_pos c35] at H
     have c35b0 : (t247 == 0) = true := beq_iff_eq.mpr c35
     have c35b1 : (t247 != 0) = false := bne_eq_false_iff_eq.mpr c35
     clear c35
     by_cases c36 : (t248 == 0 && (t249 == 0)) = true
     ·rw [if_pos c36] at H
      have c36b0 : (t248 == 0 && (t249 == 0)) = true := c36
      (try (have c36b1 : decide (t248 = 0 && (t249 == 0)) = true := by simpa using c36))
      (try (have c36b2 : (t248 == 0 && (t249 == 0)) = true := by simpa using c36))
      clear c36
      by_cases c37 : t250 = 0
      ·rw [if_pos c37] at H
       have c37b0 : (t250 == 0) = true := beq_iff_eq.mpr c37
       have c37b1 : (t250 != 0) = false := bne_eq_false_iff_eq.mpr c37
       clear c37
       by_cases c38 : t251 = 2
       ·rw [if_pos c38] at H
        have c38b0 : (t251 == 2) = true := beq_iff_eq.mpr c38
        have c38b1 : (t251 != 2) = false := bne_eq_false_iff_eq.mpr c38
        clear c38
        replace H := Option.bind_eq_some_iff.mp H
        obtain ⟨t255, A390, H⟩ := H
        replace H : (some t255) = some r := H
        have A39 := Aside0.mk A390
        clear A390
        obtain rfl := Option.some.inj H
        have hnb40 := NB252_243.out
        have hnc40 := NB243_252.out
        have hcz41_0 : wc.cell? ⟨gb252, 0, none⟩ = some (.int .i64 t248) := (blk_cell BK252.out 0).trans rfl
        have hcz41_1 : wc.cell? ⟨gb252, 1, none⟩ = some (.int .i64 t249) := (blk_cell BK252.out 1).trans rfl
        have hfz41_0 := blk_frozen BK252.out 0
        have hfz41_1 := blk_frozen BK252.out 1
        go_wp2_with (first | (go_at_call 14; (with_reducible refine (comfitlaw06_awake.calls kj5  t255 _ A39.out).mono ?_); rintro e w42 ⟨rfl, hb⟩; have n0_ := Aside0.mk (bkb_ BK243.out hb); have n1_ := Aside0.mk (bkb_ BK252.out hb); have n2_ := Aside0.mk (below_step (hb_ HB.out) hb); clear BK243; clear BK252; clear HB; have BK243 := n0_; have BK252 := n1_; have HB := n2_; clear n0_ n1_ n2_; (try clear hb); (try clear hb2); (try clear hk); (try clear hi)))
        go_ret
        exact ⟨by first | rfl | (simp [errW_none, errW_some] <;> rfl) | (simp [*, errW_none, errW_some] <;> rfl), by repeat (first | (with_reducible first | exact HB.out | apply below_alloc | apply pw_below_drewN | apply below_drew1 | refine below_set ?_ GE243.out | refine below_set ?_ GE252.out) | exact HB.out)⟩
       ·rw [if_neg c38] at H
        have c38b0 : (t251 == 2) = false := beq_eq_false_iff_ne.mpr c38
        have c38b1 : (t251 != 2) = true := bne_iff_ne.mpr c38
        obtain rfl := Option.some.inj H
        have hnb43 := NB252_243.out
        have hnc43 := NB243_252.out
        have hcz44_0 : wc.cell? ⟨gb252, 0, none⟩ = some (.int .i64 t248) := (blk_cell BK252.out 0).trans rfl
        have hcz44_1 : wc.cell? ⟨gb252, 1, none⟩ = some (.int .i64 t249) := (blk_cell BK252.out 1).trans rfl
        have hfz44_0 := blk_frozen BK252.out 0
        have hfz44_1 := blk_frozen BK252.out 1
        go_wp2
        go_ret
        exact ⟨by first | rfl | (simp [errW_none, errW_some] <;> rfl) | (simp [*, errW_none, errW_some] <;> rfl), by repeat (first | (with_reducible first | exact HB.out | apply below_alloc | apply pw_below_drewN | apply below_drew1 | refine below_set ?_ GE243.out | refine below_set ?_ GE252.out) | exact HB.out)⟩
      ·rw [if_neg c37] at H
       have c37b0 : (t250 == 0) = false := beq_eq_false_iff_ne.mpr c37
       have c37b1 : (t250 != 0) = true := bne_iff_ne.mpr c37
       obtain rfl := Option.some.inj H
       have hnb45 := NB252_243.out
       have hnc45 := NB243_252.out
       have hcz46_0 : wc.cell? ⟨gb252, 0, none⟩ = some (.int .i64 t248) := (blk_cell BK252.out 0).trans rfl
       have hcz46_1 : wc.cell? ⟨gb252, 1, none⟩ = some (.int .i64 t249) := (blk_cell BK252.out 1).trans rfl
       have hfz46_0 := blk_frozen BK252.out 0
       have hfz46_1 := blk_frozen BK252.out 1
       go_wp2
       go_ret
       exact ⟨by first | rfl | (simp [errW_none, errW_some] <;> rfl) | (simp [*, errW_none, errW_some] <;> rfl), by repeat (first | (with_reducible first | exact HB.out | apply below_alloc | apply pw_below_drewN | apply below_drew1 | refine below_set ?_ GE243.out | refine below_set ?_ GE252.out) | exact HB.out)⟩
     ·rw [if_neg c36] at H
      have c36b0 : (t248 == 0 && (t249 == 0)) = false := by simpa using c36
      (try (have c36b1 : decide (t248 = 0 && (t249 == 0)) = false := by simpa using c36))
      (try (have c36b2 : (t248 == 0 && (t249 == 0)) = false := by simpa using c36))
      (try (have c36b3 : ¬ (t248 = 0 && (t249 == 0)) := by simpa using c36))
      clear c36
      obtain rfl := Option.some.inj H
      have hnb47 := NB252_243.out
      have hnc47 := NB243_252.out
      have hcz48_0 : wc.cell? ⟨gb252, 0, none⟩ = some (.int .i64 t248) := (blk_cell BK252.out 0).trans rfl
      have hcz48_1 : wc.cell? ⟨gb252, 1, none⟩ = some (.int .i64 t249) := (blk_cell BK252.out 1).trans rfl
      have hfz48_0 := blk_frozen BK252.out 0
      have hfz48_1 := blk_frozen BK252.out 1
      go_wp2
      go_ret
      exact ⟨by first | rfl | (simp [errW_none, errW_some] <;> rfl) | (simp [*, errW_none, errW_some] <;> rfl), by repeat (first | (with_reducible first | exact HB.out | apply below_alloc | apply pw_below_drewN | apply below_drew1 | refine below_set ?_ GE243.out | refine below_set ?_ GE252.out) | exact HB.out)⟩
    ·rw [if_neg c35] at H
     have c35b0 : (t247 == 0) = false := beq_eq_false_iff_ne.mpr c35
     have c35b1 : (t247 != 0) = true := bne_iff_ne.mpr c35
     obtain rfl := Option.some.inj H
     go_wp2
     go_ret
     exact ⟨by first | rfl | (simp [errW_none, errW_some] <;> rfl) | (simp [*, errW_none, errW_some] <;> rfl), by repeat (first | (with_reducible first | exact HB.out | apply below_alloc | apply pw_below_drewN | apply below_drew1 | refine below_set ?_ GE243.out | refine below_set ?_ GE252.out) | exact HB.out)⟩
   ·replace c34 := Bool.eq_false_iff.mpr c34
    subst c34
    have H1 : ((comfitref06_Go.f kj5 l0 a1_0 a1_1 a2).bind fun bt256 => (if t247 = bt256.1 then (if (t248 == bt256.2.1 && (t249 == bt256.2.2.1)) = true then (if t250 = bt256.2.2.2 then (if t251 = 0 then ((comfitlaw06_awake.f kj5).bind fun t261 => (some t261)) else (some false)) else (some false)) else (some false)) else (some false))) = some r := by rw [if_neg (show ¬ (false = true) by decide)] at H; exact H
    clear H
    have H := H1
    clear H1
    replace H := Option.bind_eq_some_iff.mp H
    obtain ⟨⟨t256, t257, t258, t259⟩, A490, H⟩ := H
    replace H : (if t247 = t256 then (if (t248 == t257 && (t249 == t258)) = true then (if t250 = t259 then (if t251 = 0 then ((comfitlaw06_awake.f kj5).bind fun t261 => (some t261)) else (some false)) else (some false)) else (some false)) else (some false)) = some r := H
    have A49 := Aside0.mk A490
    clear A490
    by_cases c50 : t247 = t256
    ·rw [if_pos c50] at H
     have c50b0 : (t247 == t256) = true := beq_iff_eq.mpr c50
     have c50b1 : (t247 != t256) = false := bne_eq_false_iff_eq.mpr c50
     clear c50
     by_cases c51 : (t248 == t257 && (t249 == t258)) = true
     ·rw [if_pos c51] at H
      have c51b0 : (t248 == t257 && (t249 == t258)) = true := c51
      (try (have c51b1 : decide (t248 = t257 && (t249 == t258)) = true := by simpa using c51))
      (try (have c51b2 : (t248 == t257 && (t249 == t258)) = true := by simpa using c51))
      clear c51
      by_cases c52 : t250 = t259
      ·rw [if_pos c52] at H
       have c52b0 : (t250 == t259) = true := beq_iff_eq.mpr c52
       have c52b1 : (t250 != t259) = false := bne_eq_false_iff_eq.mpr c52
       clear c52
       by_cases c53 : t251 = 0
       ·rw [if_pos c53] at H
        have c53b0 : (t251 == 0) = true := beq_iff_eq.mpr c53
        have c53b1 : (t251 != 0) = false := bne_eq_false_iff_eq.mpr c53
        clear c53
        replace H := Option.bind_eq_some_iff.mp H
        obtain ⟨t261, A540, H⟩ := H
        replace H : (some t261) = some r := H
        have A54 := Aside0.mk A540
        clear A540
        obtain rfl := Option.some.inj H
        have hnb55 := NB243_252.out
        have hnc55 := NB252_243.out
        have hcz56_0 : wc.cell? ⟨gb243, 0, none⟩ = some (.int .i64 a1_0) := (blk_cell BK243.out 0).trans rfl
        have hcz56_1 : wc.cell? ⟨gb243, 1, none⟩ = some (.int .i64 a1_1) := (blk_cell BK243.out 1).trans rfl
        have hfz56_0 := blk_frozen BK243.out 0
        have hfz56_1 := blk_frozen BK243.out 1
        go_wp2_with (first | ((with_reducible refine gate_callee (f := 15) rfl ?_); refine goesL_ (some 62) rfl rfl Try.func15 (by kernel_rfl) rfl #[.slice A0 l0.length c0, .agg #[.int .i64 a1_0, .int .i64 a1_1], .int .i64 a2] rfl al_ ?_; (with_reducible refine (comfitref06_Go.calls kj5 _ _ l0 a1_0 a1_1 a2 t256 t257 t258 t259 _ ?side1 ?side2 A49.out).mono ?_); (case side1 => exact kc_ (Kd.C_below HR0.out HB.out)); (case side2 => exact HC0.out); rintro e w57 ⟨rfl, hb⟩; refine ⟨_, rfl, ?_⟩; have n0_ := Aside0.mk (bkb_ BK243.out hb); have n1_ := Aside0.mk (bkb_ BK252.out hb); have n2_ := Aside0.mk (below_step (hb_ HB.out) hb); clear BK243; clear BK252; clear HB; have BK243 := n0_; have BK252 := n1_; have HB := n2_; clear n0_ n1_ n2_; (try clear hb); (try clear hb2); (try clear hk); (try clear hi)) | ((with_reducible refine gate_dst (N := 12) rfl ?_); refine box_event ?hg (N := 12) ?hd (cs := #[.int .i64 0, .int .i64 0]) (t := 23) ?hr ?_; (case hd => rfl); (case hg => rfl); (case hr => first | (go_simp; done) | (go_simp; rfl)); intro gb260 hg w58 hbox hb; have n0_ := Aside0.mk (bkb_ BK243.out hb); have n1_ := Aside0.mk (bkb_ BK252.out hb); have n2_ := Aside0.mk (below_step (hb_ HB.out) hb); have n3_ := Aside0.mk (hbox); have n4_ := Aside0.mk ((by rw [hg]; exact (below_size (hb_ HB.out)) : w.heap.size ≤ gb260)); have n5_ := Aside0.mk ((by rw [hg]; exact (below_size (hb_ HB.out)) : w.heap.size ≤ gb260)); have n6_ := Aside0.mk ((by rw [hg]; exact Nat.ne_of_lt (bkl_ BK243.out) : gb243 ≠ gb260)); have n7_ := Aside0.mk ((by rw [hg]; exact Nat.ne_of_gt (bkl_ BK243.out) : gb260 ≠ gb243)); have n8_ := Aside0.mk ((by rw [hg]; exact Nat.ne_of_lt (bkl_ BK252.out) : gb252 ≠ gb260)); have n9_ := Aside0.mk ((by rw [hg]; exact Nat.ne_of_gt (bkl_ BK252.out) : gb260 ≠ gb252)); clear BK243; clear BK252; clear HB; have BK243 := n0_; have BK252 := n1_; have HB := n2_; have BK260 := n3_; have GW260 := n4_; have GE260 := n5_; have NB243_260 := n6_; have NB260_243 := n7_; have NB252_260 := n8_; have NB260_252 := n9_; clear n0_ n1_ n2_ n3_ n4_ n5_ n6_ n7_ n8_ n9_; clear hb hbox hg; have hnb59 := NB260_243.out; have hnc59 := NB243_260.out; have hnb60 := NB260_252.out; have hnc60 := NB252_260.out; have hcz61_0 : w58.cell? ⟨gb260, 0, none⟩ = some (.int .i64 0) := (blk_cell BK260.out 0).trans rfl; have hcz61_1 : w58.cell? ⟨gb260, 1, none⟩ = some (.int .i64 0) := (blk_cell BK260.out 1).trans rfl; have hfz61_0 := blk_frozen BK260.out 0; have hfz61_1 := blk_frozen BK260.out 1; have hcz62_0 : w58.cell? ⟨gb252, 0, none⟩ = some (.int .i64 t248) := (blk_cell BK252.out 0).trans rfl; have hcz62_1 : w58.cell? ⟨gb252, 1, none⟩ = some (.int .i64 t249) := (blk_cell BK252.out 1).trans rfl; have hfz62_0 := blk_frozen BK252.out 0; have hfz62_1 := blk_frozen BK252.out 1) | (go_at_call 14; (with_reducible refine (comfitlaw06_awake.calls kj5  t261 _ A54.out).mono ?_); rintro e w63 ⟨rfl, hb⟩; have n0_ := Aside0.mk (blk_below (g := gb243) (o := .cells #[.int .i64 a1_0, .int .i64 a1_1] 23 (0, 0)) (by (with_reducible repeat (first | refine blk_drewN ?_ _ | refine blk_drew ?_ | refine blk_alloc ?_ _)); refine blk_far ?_ NB243_260.out _; (with_reducible repeat (first | refine blk_drewN ?_ _ | refine blk_drew ?_ | refine blk_alloc ?_ _)); refine blk_far ?_ NB243_260.out _; (with_reducible repeat (first | refine blk_drewN ?_ _ | refine blk_drew ?_ | refine blk_alloc ?_ _)); exact BK243.out) hb); have n1_ := Aside0.mk (blk_below (g := gb252) (o := .cells #[.int .i64 t248, .int .i64 t249] 23 (0, 0)) (by (with_reducible repeat (first | refine blk_drewN ?_ _ | refine blk_drew ?_ | refine blk_alloc ?_ _)); refine blk_far ?_ NB252_260.out _; (with_reducible repeat (first | refine blk_drewN ?_ _ | refine blk_drew ?_ | refine blk_alloc ?_ _)); refine blk_far ?_ NB252_260.out _; (with_reducible repeat (first | refine blk_drewN ?_ _ | refine blk_drew ?_ | refine blk_alloc ?_ _)); exact BK252.out) hb); have n2_ := Aside0.mk (blk_below (g := gb260) (o := .cells #[.int .i64 t257, .int .i64 t258] 23 (0, 0)) (by (with_reducible repeat (first | refine blk_drewN ?_ _ | refine blk_drew ?_ | refine blk_alloc ?_ _)); refine blk_put (cs := #[.int .i64 t257, .int .i64 0]) ?_ 1 _ rfl; (with_reducible repeat (first | refine blk_drewN ?_ _ | refine blk_drew ?_ | refine blk_alloc ?_ _)); refine blk_put (cs := #[.int .i64 0, .int .i64 0]) ?_ 0 _ rfl; (with_reducible repeat (first | refine blk_drewN ?_ _ | refine blk_drew ?_ | refine blk_alloc ?_ _)); exact BK260.out) hb); have n3_ := Aside0.mk (below_step (hb_ HB.out) hb); clear BK243; clear BK252; clear BK260; clear HB; have BK243 := n0_; have BK252 := n1_; have BK260 := n2_; have HB := n3_; clear n0_ n1_ n2_ n3_; (try clear hb); (try clear hb2); (try clear hk); (try clear hi)))
        go_ret
        exact ⟨by first | rfl | (simp [errW_none, errW_some] <;> rfl) | (simp [*, errW_none, errW_some] <;> rfl), by repeat (first | (with_reducible first | exact HB.out | apply below_alloc | apply pw_below_drewN | apply below_drew1 | refine below_set ?_ GE243.out | refine below_set ?_ GE252.out | refine below_set ?_ GE260.out) | exact HB.out)⟩
       ·rw [if_neg c53] at H
        have c53b0 : (t251 == 0) = false := beq_eq_false_iff_ne.mpr c53
        have c53b1 : (t251 != 0) = true := bne_iff_ne.mpr c53
        obtain rfl := Option.some.inj H
        have hnb64 := NB243_252.out
        have hnc64 := NB252_243.out
        have hcz65_0 : wc.cell? ⟨gb243, 0, none⟩ = some (.int .i64 a1_0) := (blk_cell BK243.out 0).trans rfl
        have hcz65_1 : wc.cell? ⟨gb243, 1, none⟩ = some (.int .i64 a1_1) := (blk_cell BK243.out 1).trans rfl
        have hfz65_0 := blk_frozen BK243.out 0
        have hfz65_1 := blk_frozen BK243.out 1
        go_wp2_with (first | ((with_reducible refine gate_callee (f := 15) rfl ?_); refine goesL_ (some 62) rfl rfl Try.func15 (by kernel_rfl) rfl #[.slice A0 l0.length c0, .agg #[.int .i64 a1_0, .int .i64 a1_1], .int .i64 a2] rfl al_ ?_; (with_reducible refine (comfitref06_Go.calls kj5 _ _ l0 a1_0 a1_1 a2 t256 t257 t258 t259 _ ?side1 ?side2 A49.out).mono ?_); (case side1 => exact kc_ (Kd.C_below HR0.out HB.out)); (case side2 => exact HC0.out); rintro e w66 ⟨rfl, hb⟩; refine ⟨_, rfl, ?_⟩; have n0_ := Aside0.mk (bkb_ BK243.out hb); have n1_ := Aside0.mk (bkb_ BK252.out hb); have n2_ := Aside0.mk (below_step (hb_ HB.out) hb); clear BK243; clear BK252; clear HB; have BK243 := n0_; have BK252 := n1_; have HB := n2_; clear n0_ n1_ n2_; (try clear hb); (try clear hb2); (try clear hk); (try clear hi)) | ((with_reducible refine gate_dst (N := 12) rfl ?_); refine box_event ?hg (N := 12) ?hd (cs := #[.int .i64 0, .int .i64 0]) (t := 23) ?hr ?_; (case hd => rfl); (case hg => rfl); (case hr => first | (go_simp; done) | (go_simp; rfl)); intro gb260 hg w67 hbox hb; have n0_ := Aside0.mk (bkb_ BK243.out hb); have n1_ := Aside0.mk (bkb_ BK252.out hb); have n2_ := Aside0.mk (below_step (hb_ HB.out) hb); have n3_ := Aside0.mk (hbox); have n4_ := Aside0.mk ((by rw [hg]; exact (below_size (hb_ HB.out)) : w.heap.size ≤ gb260)); have n5_ := Aside0.mk ((by rw [hg]; exact (below_size (hb_ HB.out)) : w.heap.size ≤ gb260)); have n6_ := Aside0.mk ((by rw [hg]; exact Nat.ne_of_lt (bkl_ BK243.out) : gb243 ≠ gb260)); have n7_ := Aside0.mk ((by rw [hg]; exact Nat.ne_of_gt (bkl_ BK243.out) : gb260 ≠ gb243)); have n8_ := Aside0.mk ((by rw [hg]; exact Nat.ne_of_lt (bkl_ BK252.out) : gb252 ≠ gb260)); have n9_ := Aside0.mk ((by rw [hg]; exact Nat.ne_of_gt (bkl_ BK252.out) : gb260 ≠ gb252)); clear BK243; clear BK252; clear HB; have BK243 := n0_; have BK252 := n1_; have HB := n2_; have BK260 := n3_; have GW260 := n4_; have GE260 := n5_; have NB243_260 := n6_; have NB260_243 := n7_; have NB252_260 := n8_; have NB260_252 := n9_; clear n0_ n1_ n2_ n3_ n4_ n5_ n6_ n7_ n8_ n9_; clear hb hbox hg; have hnb68 := NB260_243.out; have hnc68 := NB243_260.out; have hnb69 := NB260_252.out; have hnc69 := NB252_260.out; have hcz70_0 : w67.cell? ⟨gb260, 0, none⟩ = some (.int .i64 0) := (blk_cell BK260.out 0).trans rfl; have hcz70_1 : w67.cell? ⟨gb260, 1, none⟩ = some (.int .i64 0) := (blk_cell BK260.out 1).trans rfl; have hfz70_0 := blk_frozen BK260.out 0; have hfz70_1 := blk_frozen BK260.out 1; have hcz71_0 : w67.cell? ⟨gb252, 0, none⟩ = some (.int .i64 t248) := (blk_cell BK252.out 0).trans rfl; have hcz71_1 : w67.cell? ⟨gb252, 1, none⟩ = some (.int .i64 t249) := (blk_cell BK252.out 1).trans rfl; have hfz71_0 := blk_frozen BK252.out 0; have hfz71_1 := blk_frozen BK252.out 1))
        go_ret
        exact ⟨by first | rfl | (simp [errW_none, errW_some] <;> rfl) | (simp [*, errW_none, errW_some] <;> rfl), by repeat (first | (with_reducible first | exact HB.out | apply below_alloc | apply pw_below_drewN | apply below_drew1 | refine below_set ?_ GE243.out | refine below_set ?_ GE252.out | refine below_set ?_ GE260.out) | exact HB.out)⟩
      ·rw [if_neg c52] at H
       have c52b0 : (t250 == t259) = false := beq_eq_false_iff_ne.mpr c52
       have c52b1 : (t250 != t259) = true := bne_iff_ne.mpr c52
       obtain rfl := Option.some.inj H
       have hnb72 := NB243_252.out
       have hnc72 := NB252_243.out
       have hcz73_0 : wc.cell? ⟨gb243, 0, none⟩ = some (.int .i64 a1_0) := (blk_cell BK243.out 0).trans rfl
       have hcz73_1 : wc.cell? ⟨gb243, 1, none⟩ = some (.int .i64 a1_1) := (blk_cell BK243.out 1).trans rfl
       have hfz73_0 := blk_frozen BK243.out 0
       have hfz73_1 := blk_frozen BK243.out 1
       go_wp2_with (first | ((with_reducible refine gate_callee (f := 15) rfl ?_); refine goesL_ (some 62) rfl rfl Try.func15 (by kernel_rfl) rfl #[.slice A0 l0.length c0, .agg #[.int .i64 a1_0, .int .i64 a1_1], .int .i64 a2] rfl al_ ?_; (with_reducible refine (comfitref06_Go.calls kj5 _ _ l0 a1_0 a1_1 a2 t256 t257 t258 t259 _ ?side1 ?side2 A49.out).mono ?_); (case side1 => exact kc_ (Kd.C_below HR0.out HB.out)); (case side2 => exact HC0.out); rintro e w74 ⟨rfl, hb⟩; refine ⟨_, rfl, ?_⟩; have n0_ := Aside0.mk (bkb_ BK243.out hb); have n1_ := Aside0.mk (bkb_ BK252.out hb); have n2_ := Aside0.mk (below_step (hb_ HB.out) hb); clear BK243; clear BK252; clear HB; have BK243 := n0_; have BK252 := n1_; have HB := n2_; clear n0_ n1_ n2_; (try clear hb); (try clear hb2); (try clear hk); (try clear hi)) | ((with_reducible refine gate_dst (N := 12) rfl ?_); refine box_event ?hg (N := 12) ?hd (cs := #[.int .i64 0, .int .i64 0]) (t := 23) ?hr ?_; (case hd => rfl); (case hg => rfl); (case hr => first | (go_simp; done) | (go_simp; rfl)); intro gb260 hg w75 hbox hb; have n0_ := Aside0.mk (bkb_ BK243.out hb); have n1_ := Aside0.mk (bkb_ BK252.out hb); have n2_ := Aside0.mk (below_step (hb_ HB.out) hb); have n3_ := Aside0.mk (hbox); have n4_ := Aside0.mk ((by rw [hg]; exact (below_size (hb_ HB.out)) : w.heap.size ≤ gb260)); have n5_ := Aside0.mk ((by rw [hg]; exact (below_size (hb_ HB.out)) : w.heap.size ≤ gb260)); have n6_ := Aside0.mk ((by rw [hg]; exact Nat.ne_of_lt (bkl_ BK243.out) : gb243 ≠ gb260)); have n7_ := Aside0.mk ((by rw [hg]; exact Nat.ne_of_gt (bkl_ BK243.out) : gb260 ≠ gb243)); have n8_ := Aside0.mk ((by rw [hg]; exact Nat.ne_of_lt (bkl_ BK252.out) : gb252 ≠ gb260)); have n9_ := Aside0.mk ((by rw [hg]; exact Nat.ne_of_gt (bkl_ BK252.out) : gb260 ≠ gb252)); clear BK243; clear BK252; clear HB; have BK243 := n0_; have BK252 := n1_; have HB := n2_; have BK260 := n3_; have GW260 := n4_; have GE260 := n5_; have NB243_260 := n6_; have NB260_243 := n7_; have NB252_260 := n8_; have NB260_252 := n9_; clear n0_ n1_ n2_ n3_ n4_ n5_ n6_ n7_ n8_ n9_; clear hb hbox hg; have hnb76 := NB260_243.out; have hnc76 := NB243_260.out; have hnb77 := NB260_252.out; have hnc77 := NB252_260.out; have hcz78_0 : w75.cell? ⟨gb260, 0, none⟩ = some (.int .i64 0) := (blk_cell BK260.out 0).trans rfl; have hcz78_1 : w75.cell? ⟨gb260, 1, none⟩ = some (.int .i64 0) := (blk_cell BK260.out 1).trans rfl; have hfz78_0 := blk_frozen BK260.out 0; have hfz78_1 := blk_frozen BK260.out 1; have hcz79_0 : w75.cell? ⟨gb252, 0, none⟩ = some (.int .i64 t248) := (blk_cell BK252.out 0).trans rfl; have hcz79_1 : w75.cell? ⟨gb252, 1, none⟩ = some (.int .i64 t249) := (blk_cell BK252.out 1).trans rfl; have hfz79_0 := blk_frozen BK252.out 0; have hfz79_1 := blk_frozen BK252.out 1))
       go_ret
       exact ⟨by first | rfl | (simp [errW_none, errW_some] <;> rfl) | (simp [*, errW_none, errW_some] <;> rfl), by repeat (first | (with_reducible first | exact HB.out | apply below_alloc | apply pw_below_drewN | apply below_drew1 | refine below_set ?_ GE243.out | refine below_set ?_ GE252.out | refine below_set ?_ GE260.out) | exact HB.out)⟩
     ·rw [if_neg c51] at H
      have c51b0 : (t248 == t257 && (t249 == t258)) = false := by simpa using c51
      (try (have c51b1 : decide (t248 = t257 && (t249 == t258)) = false := by simpa using c51))
      (try (have c51b2 : (t248 == t257 && (t249 == t258)) = false := by simpa using c51))
      (try (have c51b3 : ¬ (t248 = t257 && (t249 == t258)) := by simpa using c51))
      clear c51
      obtain rfl := Option.some.inj H
      have hnb80 := NB243_252.out
      have hnc80 := NB252_243.out
      have hcz81_0 : wc.cell? ⟨gb243, 0, none⟩ = some (.int .i64 a1_0) := (blk_cell BK243.out 0).trans rfl
      have hcz81_1 : wc.cell? ⟨gb243, 1, none⟩ = some (.int .i64 a1_1) := (blk_cell BK243.out 1).trans rfl
      have hfz81_0 := blk_frozen BK243.out 0
      have hfz81_1 := blk_frozen BK243.out 1
      go_wp2_with (first | ((with_reducible refine gate_callee (f := 15) rfl ?_); refine goesL_ (some 62) rfl rfl Try.func15 (by kernel_rfl) rfl #[.slice A0 l0.length c0, .agg #[.int .i64 a1_0, .int .i64 a1_1], .int .i64 a2] rfl al_ ?_; (with_reducible refine (comfitref06_Go.calls kj5 _ _ l0 a1_0 a1_1 a2 t256 t257 t258 t259 _ ?side1 ?side2 A49.out).mono ?_); (case side1 => exact kc_ (Kd.C_below HR0.out HB.out)); (case side2 => exact HC0.out); rintro e w82 ⟨rfl, hb⟩; refine ⟨_, rfl, ?_⟩; have n0_ := Aside0.mk (bkb_ BK243.out hb); have n1_ := Aside0.mk (bkb_ BK252.out hb); have n2_ := Aside0.mk (below_step (hb_ HB.out) hb); clear BK243; clear BK252; clear HB; have BK243 := n0_; have BK252 := n1_; have HB := n2_; clear n0_ n1_ n2_; (try clear hb); (try clear hb2); (try clear hk); (try clear hi)) | ((with_reducible refine gate_dst (N := 12) rfl ?_); refine box_event ?hg (N := 12) ?hd (cs := #[.int .i64 0, .int .i64 0]) (t := 23) ?hr ?_; (case hd => rfl); (case hg => rfl); (case hr => first | (go_simp; done) | (go_simp; rfl)); intro gb260 hg w83 hbox hb; have n0_ := Aside0.mk (bkb_ BK243.out hb); have n1_ := Aside0.mk (bkb_ BK252.out hb); have n2_ := Aside0.mk (below_step (hb_ HB.out) hb); have n3_ := Aside0.mk (hbox); have n4_ := Aside0.mk ((by rw [hg]; exact (below_size (hb_ HB.out)) : w.heap.size ≤ gb260)); have n5_ := Aside0.mk ((by rw [hg]; exact (below_size (hb_ HB.out)) : w.heap.size ≤ gb260)); have n6_ := Aside0.mk ((by rw [hg]; exact Nat.ne_of_lt (bkl_ BK243.out) : gb243 ≠ gb260)); have n7_ := Aside0.mk ((by rw [hg]; exact Nat.ne_of_gt (bkl_ BK243.out) : gb260 ≠ gb243)); have n8_ := Aside0.mk ((by rw [hg]; exact Nat.ne_of_lt (bkl_ BK252.out) : gb252 ≠ gb260)); have n9_ := Aside0.mk ((by rw [hg]; exact Nat.ne_of_gt (bkl_ BK252.out) : gb260 ≠ gb252)); clear BK243; clear BK252; clear HB; have BK243 := n0_; have BK252 := n1_; have HB := n2_; have BK260 := n3_; have GW260 := n4_; have GE260 := n5_; have NB243_260 := n6_; have NB260_243 := n7_; have NB252_260 := n8_; have NB260_252 := n9_; clear n0_ n1_ n2_ n3_ n4_ n5_ n6_ n7_ n8_ n9_; clear hb hbox hg; have hnb84 := NB260_243.out; have hnc84 := NB243_260.out; have hnb85 := NB260_252.out; have hnc85 := NB252_260.out; have hcz86_0 : w83.cell? ⟨gb260, 0, none⟩ = some (.int .i64 0) := (blk_cell BK260.out 0).trans rfl; have hcz86_1 : w83.cell? ⟨gb260, 1, none⟩ = some (.int .i64 0) := (blk_cell BK260.out 1).trans rfl; have hfz86_0 := blk_frozen BK260.out 0; have hfz86_1 := blk_frozen BK260.out 1; have hcz87_0 : w83.cell? ⟨gb252, 0, none⟩ = some (.int .i64 t248) := (blk_cell BK252.out 0).trans rfl; have hcz87_1 : w83.cell? ⟨gb252, 1, none⟩ = some (.int .i64 t249) := (blk_cell BK252.out 1).trans rfl; have hfz87_0 := blk_frozen BK252.out 0; have hfz87_1 := blk_frozen BK252.out 1))
      go_ret
      exact ⟨by first | rfl | (simp [errW_none, errW_some] <;> rfl) | (simp [*, errW_none, errW_some] <;> rfl), by repeat (first | (with_reducible first | exact HB.out | apply below_alloc | apply pw_below_drewN | apply below_drew1 | refine below_set ?_ GE243.out | refine below_set ?_ GE252.out | refine below_set ?_ GE260.out) | exact HB.out)⟩
    ·rw [if_neg c50] at H
     have c50b0 : (t247 == t256) = false := beq_eq_false_iff_ne.mpr c50
     have c50b1 : (t247 != t256) = true := bne_iff_ne.mpr c50
     obtain rfl := Option.some.inj H
     have hnb88 := NB243_252.out
     have hnc88 := NB252_243.out
     have hcz89_0 : wc.cell? ⟨gb243, 0, none⟩ = some (.int .i64 a1_0) := (blk_cell BK243.out 0).trans rfl
     have hcz89_1 : wc.cell? ⟨gb243, 1, none⟩ = some (.int .i64 a1_1) := (blk_cell BK243.out 1).trans rfl
     have hfz89_0 := blk_frozen BK243.out 0
     have hfz89_1 := blk_frozen BK243.out 1
     go_wp2_with (first | ((with_reducible refine gate_callee (f := 15) rfl ?_); refine goesL_ (some 62) rfl rfl Try.func15 (by kernel_rfl) rfl #[.slice A0 l0.length c0, .agg #[.int .i64 a1_0, .int .i64 a1_1], .int .i64 a2] rfl al_ ?_; (with_reducible refine (comfitref06_Go.calls kj5 _ _ l0 a1_0 a1_1 a2 t256 t257 t258 t259 _ ?side1 ?side2 A49.out).mono ?_); (case side1 => exact kc_ (Kd.C_below HR0.out HB.out)); (case side2 => exact HC0.out); rintro e w90 ⟨rfl, hb⟩; refine ⟨_, rfl, ?_⟩; have n0_ := Aside0.mk (bkb_ BK243.out hb); have n1_ := Aside0.mk (bkb_ BK252.out hb); have n2_ := Aside0.mk (below_step (hb_ HB.out) hb); clear BK243; clear BK252; clear HB; have BK243 := n0_; have BK252 := n1_; have HB := n2_; clear n0_ n1_ n2_; (try clear hb); (try clear hb2); (try clear hk); (try clear hi)) | ((with_reducible refine gate_dst (N := 12) rfl ?_); refine box_event ?hg (N := 12) ?hd (cs := #[.int .i64 0, .int .i64 0]) (t := 23) ?hr ?_; (case hd => rfl); (case hg => rfl); (case hr => first | (go_simp; done) | (go_simp; rfl)); intro gb260 hg w91 hbox hb; have n0_ := Aside0.mk (bkb_ BK243.out hb); have n1_ := Aside0.mk (bkb_ BK252.out hb); have n2_ := Aside0.mk (below_step (hb_ HB.out) hb); have n3_ := Aside0.mk (hbox); have n4_ := Aside0.mk ((by rw [hg]; exact (below_size (hb_ HB.out)) : w.heap.size ≤ gb260)); have n5_ := Aside0.mk ((by rw [hg]; exact (below_size (hb_ HB.out)) : w.heap.size ≤ gb260)); have n6_ := Aside0.mk ((by rw [hg]; exact Nat.ne_of_lt (bkl_ BK243.out) : gb243 ≠ gb260)); have n7_ := Aside0.mk ((by rw [hg]; exact Nat.ne_of_gt (bkl_ BK243.out) : gb260 ≠ gb243)); have n8_ := Aside0.mk ((by rw [hg]; exact Nat.ne_of_lt (bkl_ BK252.out) : gb252 ≠ gb260)); have n9_ := Aside0.mk ((by rw [hg]; exact Nat.ne_of_gt (bkl_ BK252.out) : gb260 ≠ gb252)); clear BK243; clear BK252; clear HB; have BK243 := n0_; have BK252 := n1_; have HB := n2_; have BK260 := n3_; have GW260 := n4_; have GE260 := n5_; have NB243_260 := n6_; have NB260_243 := n7_; have NB252_260 := n8_; have NB260_252 := n9_; clear n0_ n1_ n2_ n3_ n4_ n5_ n6_ n7_ n8_ n9_; clear hb hbox hg; have hnb92 := NB260_243.out; have hnc92 := NB243_260.out; have hnb93 := NB260_252.out; have hnc93 := NB252_260.out; have hcz94_0 : w91.cell? ⟨gb260, 0, none⟩ = some (.int .i64 0) := (blk_cell BK260.out 0).trans rfl; have hcz94_1 : w91.cell? ⟨gb260, 1, none⟩ = some (.int .i64 0) := (blk_cell BK260.out 1).trans rfl; have hfz94_0 := blk_frozen BK260.out 0; have hfz94_1 := blk_frozen BK260.out 1))
     go_ret
     exact ⟨by first | rfl | (simp [errW_none, errW_some] <;> rfl) | (simp [*, errW_none, errW_some] <;> rfl), by repeat (first | (with_reducible first | exact HB.out | apply below_alloc | apply pw_below_drewN | apply below_drew1 | refine below_set ?_ GE243.out | refine below_set ?_ GE252.out | refine below_set ?_ GE260.out) | exact HB.out)⟩

end Go.Proofs.Ytjmbjnobbeflfaa.X
