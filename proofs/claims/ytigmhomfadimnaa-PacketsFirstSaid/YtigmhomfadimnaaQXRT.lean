/- Written by a program of this session (wip/tools/xprint.py, which calls the kit's print): Go functions as Lean functions, and for each the proof that the machine's call does what it says; no conditions but those that each theorem names. -/
import Derived.Test.YtigmhomfadimnaaQX0
import Derived.Test.YtigmhomfadimnaaQXR
namespace Go.Proofs.Ytigmhomfadimnaa.X
open Go.RowKit Go.Proofs.YtigmhomfadimnaaW.PrintWords Go.Proofs.YtigmhomfadimnaaW.PrintLast Go.Proofs.YtigmhomfadimnaaW.PrintMore
attribute [local go_sem] max2_int min2_int max_two min_two max_three min_three max_four min_four   -- for this text's walks alone
set_option linter.unusedVariables false
set_option linter.unusedSimpArgs false

/-! ### comfitref04_times: function 61 -/
def comfitref04_times.f (k : Nat) (a0_0 : Int) (a0_1 : Int) (a1_0 : Int) (a1_1 : Int) : Option (Int × Int) := (comfitref04_frac.f k a0_0 a1_1).bind fun bt246 => ((comfitref04_frac.f k a1_0 a0_1).bind fun bt248 => (some (wrap64 (bt246.1 * bt248.1), wrap64 (bt246.2 * bt248.2))))
def comfitref04_times.T1 : Bool × List (List Nat × List Nat) := (true, [([], []), ([0], [0]), ([], []), ([2], [2]), ([1, 3], [1, 3]), ([], []), ([5], [5]), ([], []), ([7], [7]), ([6, 8, 4], [6, 8]), ([], []), ([], []), ([10, 4, 9, 0, 1, 2, 3, 4, 10, 11], [4, 10]), ([11, 9, 12, 0, 1, 2, 3, 4, 5, 6, 7, 8, 9, 10, 11, 12], [9, 11])])
def comfitref04_times.B1 : List Nat := [0, 1, 0, 4, 15, 0, 32, 0, 128, 511, 0, 0, 4095, 8191]
theorem comfitref04_times.tab1 : rtab .any (opsOf Try.f61 1) = comfitref04_times.T1 := by kernel_rfl
theorem comfitref04_times.bits1 : waitsOk comfitref04_times.T1.2 comfitref04_times.B1 = true := by kernel_rfl
set_option maxHeartbeats 8000000 in
set_option maxRecDepth 100000 in
theorem comfitref04_times.calls (k : Nat) (a0_0 : Int) (a0_1 : Int) (a1_0 : Int) (a1_1 : Int) (r1 : Int) (r2 : Int) (w : World) (h : comfitref04_times.f k a0_0 a0_1 a1_0 a1_1 = some (r1, r2)) :
  Calls Try.prog 61 #[.agg #[.int .i64 a0_0, .int .i64 a0_1], .agg #[.int .i64 a1_0, .int .i64 a1_1]] w fun e w' => e = .returned (.agg #[.int .i64 r1, .int .i64 r2]) ∧ Below w.heap.size w w' := by
 have hu25 := Try.underlying25
 have HB := Aside0.mk (Below.refl w.heap.size w)
 have H : ((comfitref04_frac.f k a0_0 a1_1).bind fun bt246 => ((comfitref04_frac.f k a1_0 a0_1).bind fun bt248 => (some (wrap64 (bt246.1 * bt248.1), wrap64 (bt246.2 * bt248.2))))) = some (r1, r2) := h
 clear h
 replace H := Option.bind_eq_some_iff.mp H
 obtain ⟨⟨t246, t247⟩, A30, H⟩ := H
 replace H : ((comfitref04_frac.f k a1_0 a0_1).bind fun bt248 => (some (wrap64 (t246 * bt248.1), wrap64 (t247 * bt248.2)))) = some (r1, r2) := H
 have A3 := Aside0.mk A30
 clear A30
 replace H := Option.bind_eq_some_iff.mp H
 obtain ⟨⟨t248, t249⟩, A40, H⟩ := H
 replace H : (some (wrap64 (t246 * t248), wrap64 (t247 * t249))) = some (r1, r2) := H
 have A4 := Aside0.mk A40
 clear A40
 simp only [Option.some.injEq, Prod.mk.injEq] at H
 obtain ⟨rfl, rfl⟩ := H
 go_enter Try.func61, Try.ntmps61
 try go_wp2_with (first | ((with_reducible refine gate_dst (N := 2) rfl ?_); refine box_event ?hg (N := 2) ?hd (cs := #[.int .i64 a0_0, .int .i64 a0_1]) (t := 25) ?hr ?_; (case hd => rfl); (case hg => rfl); (case hr => first | (go_simp; done) | (go_simp; rfl)); intro gb243 hg w5 hbox hb; have n0_ := Aside0.mk (below_step (hb_ HB.out) hb); have n1_ := Aside0.mk (hbox); have n2_ := Aside0.mk ((by rw [hg]; exact (below_size (hb_ HB.out)) : w.heap.size ≤ gb243)); have n3_ := Aside0.mk ((by rw [hg]; exact (below_size (hb_ HB.out)) : w.heap.size ≤ gb243)); clear HB; have HB := n0_; have BK243 := n1_; have GW243 := n2_; have GE243 := n3_; clear n0_ n1_ n2_ n3_; clear hb hbox hg) | ((with_reducible refine gate_dst (N := 3) rfl ?_); refine box_event ?hg (N := 3) ?hd (cs := #[.int .i64 a1_0, .int .i64 a1_1]) (t := 25) ?hr ?_; (case hd => rfl); (case hg => rfl); (case hr => first | (go_simp; done) | (go_simp; rfl)); intro gb244 hg w6 hbox hb; have n0_ := Aside0.mk (bkb_ BK243.out hb); have n1_ := Aside0.mk (below_step (hb_ HB.out) hb); have n2_ := Aside0.mk (hbox); have n3_ := Aside0.mk ((by rw [hg]; exact (below_size (hb_ HB.out)) : w.heap.size ≤ gb244)); have n4_ := Aside0.mk ((by rw [hg]; exact (below_size (hb_ HB.out)) : w.heap.size ≤ gb244)); have n5_ := Aside0.mk ((by rw [hg]; exact Nat.ne_of_lt (bkl_ BK243.out) : gb243 ≠ gb244)); have n6_ := Aside0.mk ((by rw [hg]; exact Nat.ne_of_gt (bkl_ BK243.out) : gb244 ≠ gb243)); clear BK243; clear HB; have BK243 := n0_; have HB := n1_; have BK244 := n2_; have GW244 := n3_; have GE244 := n4_; have NB243_244 := n5_; have NB244_243 := n6_; clear n0_ n1_ n2_ n3_ n4_ n5_ n6_; clear hb hbox hg) | ((with_reducible refine gate_dst (N := 4) rfl ?_); refine box_event ?hg (N := 4) ?hd (cs := #[.int .i64 0, .int .i64 0]) (t := 25) ?hr ?_; (case hd => rfl); (case hg => rfl); (case hr => first | (go_simp; done) | (go_simp; rfl)); intro gb245 hg w7 hbox hb; have n0_ := Aside0.mk (bkb_ BK243.out hb); have n1_ := Aside0.mk (bkb_ BK244.out hb); have n2_ := Aside0.mk (below_step (hb_ HB.out) hb); have n3_ := Aside0.mk (hbox); have n4_ := Aside0.mk ((by rw [hg]; exact (below_size (hb_ HB.out)) : w.heap.size ≤ gb245)); have n5_ := Aside0.mk ((by rw [hg]; exact (below_size (hb_ HB.out)) : w.heap.size ≤ gb245)); have n6_ := Aside0.mk ((by rw [hg]; exact Nat.ne_of_lt (bkl_ BK243.out) : gb243 ≠ gb245)); have n7_ := Aside0.mk ((by rw [hg]; exact Nat.ne_of_gt (bkl_ BK243.out) : gb245 ≠ gb243)); have n8_ := Aside0.mk ((by rw [hg]; exact Nat.ne_of_lt (bkl_ BK244.out) : gb244 ≠ gb245)); have n9_ := Aside0.mk ((by rw [hg]; exact Nat.ne_of_gt (bkl_ BK244.out) : gb245 ≠ gb244)); clear BK243; clear BK244; clear HB; have BK243 := n0_; have BK244 := n1_; have HB := n2_; have BK245 := n3_; have GW245 := n4_; have GE245 := n5_; have NB243_245 := n6_; have NB245_243 := n7_; have NB244_245 := n8_; have NB245_244 := n9_; clear n0_ n1_ n2_ n3_ n4_ n5_ n6_ n7_ n8_ n9_; clear hb hbox hg))
 have n0_ := Aside0.mk (blk_drew BK243.out)
 have n1_ := Aside0.mk (blk_drew BK244.out)
 have n2_ := Aside0.mk (blk_drew BK245.out)
 have n3_ := Aside0.mk (below_drew1 HB.out)
 clear BK243
 clear BK244
 clear BK245
 clear HB
 have BK243 := n0_
 have BK244 := n1_
 have BK245 := n2_
 have HB := n3_
 clear n0_ n1_ n2_ n3_
 refine start_ (n := 14) (S := fun w' => w'.cell? ⟨gb243, 0, none⟩ = some (.int .i64 a0_0) ∧ w'.cell? ⟨gb243, 1, none⟩ = some (.int .i64 a0_1) ∧ w'.cell? ⟨gb244, 0, none⟩ = some (.int .i64 a1_0) ∧ w'.cell? ⟨gb244, 1, none⟩ = some (.int .i64 a1_1)) (ds := []) #[false, false, false, false, false, false, false, false, false, false, false, false, false, false] (by kernel_rfl) rfl rfl ⟨(blk_cell BK243.out 0).trans rfl, (blk_cell BK243.out 1).trans rfl, (blk_cell BK244.out 0).trans rfl, (blk_cell BK244.out 1).trans rfl⟩ (fun hHeld => ?_); refine with_tabW comfitref04_times.tab1 comfitref04_times.bits1 (fun HT_ HW_ => ?_)
 generalize w7.drew = w8 at BK243 BK244 BK245 HB hHeld ⊢
 refine pure_ (i := 0) (N := some 7) (v := ?_) (a' := ?_) #[true, false, false, false, false, false, false, false, false, false, false, false, false, false] rfl rfl (any_of HT_.out (by kernel_rfl)) (fun _ _ _ h => h) (Or.inl ⟨by rfl, ?_⟩) ?_ ?_
 rotate_left
 ·intro w'
  go_simp
  with_reducible rfl
 rotate_left
 ·simp only [Act.put, List.setIfInBounds_toArray, List.set_cons_zero, List.set_cons_succ, i64_w, i32_w]
  rfl
 refine pure_ (i := 2) (N := some 9) (v := ?_) (a' := ?_) #[true, false, true, false, false, false, false, false, false, false, false, false, false, false] rfl rfl (any_of HT_.out (by kernel_rfl)) (fun _ _ _ h => h) (Or.inl ⟨by rfl, ?_⟩) ?_ ?_
 rotate_left
 ·intro w'
  go_simp
  with_reducible rfl
 rotate_left
 ·simp only [Act.put, List.setIfInBounds_toArray, List.set_cons_zero, List.set_cons_succ, i64_w, i32_w]
  rfl
 refine pure_ (i := 5) (N := some 12) (v := ?_) (a' := ?_) #[true, false, true, false, false, true, false, false, false, false, false, false, false, false] rfl rfl (any_of HT_.out (by kernel_rfl)) (fun _ _ _ h => h) (Or.inl ⟨by rfl, ?_⟩) ?_ ?_
 rotate_left
 ·intro w'
  go_simp
  with_reducible rfl
 rotate_left
 ·simp only [Act.put, List.setIfInBounds_toArray, List.set_cons_zero, List.set_cons_succ, i64_w, i32_w]
  rfl
 refine pure_ (i := 7) (N := some 14) (v := ?_) (a' := ?_) #[true, false, true, false, false, true, false, true, false, false, false, false, false, false] rfl rfl (any_of HT_.out (by kernel_rfl)) (fun _ _ _ h => h) (Or.inl ⟨by rfl, ?_⟩) ?_ ?_
 rotate_left
 ·intro w'
  go_simp
  with_reducible rfl
 rotate_left
 ·simp only [Act.put, List.setIfInBounds_toArray, List.set_cons_zero, List.set_cons_succ, i64_w, i32_w]
  rfl
 refine take_ (i := 1) (N := some 8) (v := ?_) (a' := ?_) #[true, true, true, false, false, true, false, true, false, false, false, false, false, false] rfl rfl (take_ofW HT_.out HW_.out (by kernel_rfl)) (fun _ _ _ h => h) (Or.inl ⟨by rfl, ?_⟩) hHeld ?_ ?_
 rotate_left
 ·rintro w' ⟨s0, s1, s2, s3⟩
  go_simp
  with_reducible rfl
 rotate_left
 ·simp only [Act.put, List.setIfInBounds_toArray, List.set_cons_zero, List.set_cons_succ, i64_w, i32_w]
  rfl
 refine take_ (i := 3) (N := some 10) (v := ?_) (a' := ?_) #[true, true, true, true, false, true, false, true, false, false, false, false, false, false] rfl rfl (take_ofW HT_.out HW_.out (by kernel_rfl)) (fun _ _ _ h => h) (Or.inl ⟨by rfl, ?_⟩) hHeld ?_ ?_
 rotate_left
 ·rintro w' ⟨s0, s1, s2, s3⟩
  go_simp
  with_reducible rfl
 rotate_left
 ·simp only [Act.put, List.setIfInBounds_toArray, List.set_cons_zero, List.set_cons_succ, i64_w, i32_w]
  rfl
 refine take_ (i := 6) (N := some 13) (v := ?_) (a' := ?_) #[true, true, true, true, false, true, true, true, false, false, false, false, false, false] rfl rfl (take_ofW HT_.out HW_.out (by kernel_rfl)) (fun _ _ _ h => h) (Or.inl ⟨by rfl, ?_⟩) hHeld ?_ ?_
 rotate_left
 ·rintro w' ⟨s0, s1, s2, s3⟩
  go_simp
  with_reducible rfl
 rotate_left
 ·simp only [Act.put, List.setIfInBounds_toArray, List.set_cons_zero, List.set_cons_succ, i64_w, i32_w]
  rfl
 refine take_ (i := 8) (N := some 15) (v := ?_) (a' := ?_) #[true, true, true, true, false, true, true, true, true, false, false, false, false, false] rfl rfl (take_ofW HT_.out HW_.out (by kernel_rfl)) (fun _ _ _ h => h) (Or.inl ⟨by rfl, ?_⟩) hHeld ?_ ?_
 rotate_left
 ·rintro w' ⟨s0, s1, s2, s3⟩
  go_simp
  with_reducible rfl
 rotate_left
 ·simp only [Act.put, List.setIfInBounds_toArray, List.set_cons_zero, List.set_cons_succ, i64_w, i32_w]
  rfl
 refine join_ (σ := Nat × Nat) 2 #[true, true, true, true, true, true, true, true, true, true, true, true, false, false] (fun s_ => [(11, .agg #[.int .i64 t246, .int .i64 t247]), (16, .agg #[.int .i64 t248, .int .i64 t249]), (5, .pointer (some ⟨s_.1, 0, none⟩)), (6, .pointer (some ⟨s_.2, 0, none⟩))]) (fun s_ w' => (w'.cell? ⟨gb243, 0, none⟩ = some (.int .i64 a0_0) ∧ w'.cell? ⟨gb243, 1, none⟩ = some (.int .i64 a0_1) ∧ w'.cell? ⟨gb244, 0, none⟩ = some (.int .i64 a1_0) ∧ w'.cell? ⟨gb244, 1, none⟩ = some (.int .i64 a1_1)) ∧ (w'.heap[gb243]? = some (.cells #[.int .i64 a0_0, .int .i64 a0_1] 25 (0, 0))) ∧ (w'.heap[gb244]? = some (.cells #[.int .i64 a1_0, .int .i64 a1_1] 25 (0, 0))) ∧ (w'.heap[gb245]? = some (.cells #[.int .i64 0, .int .i64 0] 25 (0, 0))) ∧ (w'.heap[s_.1]? = some (.cells #[.int .i64 0, .int .i64 0] 25 (0, 0))) ∧ (w'.heap[s_.2]? = some (.cells #[.int .i64 0, .int .i64 0] 25 (0, 0))) ∧ (w.heap.size ≤ s_.1) ∧ (w.heap.size ≤ s_.1) ∧ (gb243 ≠ s_.1) ∧ (s_.1 ≠ gb243) ∧ (gb244 ≠ s_.1) ∧ (s_.1 ≠ gb244) ∧ (gb245 ≠ s_.1) ∧ (s_.1 ≠ gb245) ∧ (s_.2 ≠ s_.1) ∧ (s_.1 ≠ s_.2) ∧ (w.heap.size ≤ s_.2) ∧ (w.heap.size ≤ s_.2) ∧ (gb243 ≠ s_.2) ∧ (s_.2 ≠ gb243) ∧ (gb244 ≠ s_.2) ∧ (s_.2 ≠ gb244) ∧ (gb245 ≠ s_.2) ∧ (s_.2 ≠ gb245) ∧ (Below w.heap.size w w')) ?_ ?_
 rotate_left
 ·intro hJ4_9_10_11
  refine join_ (σ := Nat) 3 #[true, true, true, true, true, true, true, true, true, true, true, false, false, false] (fun s_ => [(11, .agg #[.int .i64 t246, .int .i64 t247]), (16, .agg #[.int .i64 t248, .int .i64 t249]), (5, .pointer (some ⟨s_, 0, none⟩))]) (fun s_ w' => (w'.cell? ⟨gb243, 0, none⟩ = some (.int .i64 a0_0) ∧ w'.cell? ⟨gb243, 1, none⟩ = some (.int .i64 a0_1) ∧ w'.cell? ⟨gb244, 0, none⟩ = some (.int .i64 a1_0) ∧ w'.cell? ⟨gb244, 1, none⟩ = some (.int .i64 a1_1)) ∧ (w'.heap[gb243]? = some (.cells #[.int .i64 a0_0, .int .i64 a0_1] 25 (0, 0))) ∧ (w'.heap[gb244]? = some (.cells #[.int .i64 a1_0, .int .i64 a1_1] 25 (0, 0))) ∧ (w'.heap[gb245]? = some (.cells #[.int .i64 0, .int .i64 0] 25 (0, 0))) ∧ (w'.heap[s_]? = some (.cells #[.int .i64 0, .int .i64 0] 25 (0, 0))) ∧ (w.heap.size ≤ s_) ∧ (w.heap.size ≤ s_) ∧ (gb243 ≠ s_) ∧ (s_ ≠ gb243) ∧ (gb244 ≠ s_) ∧ (s_ ≠ gb244) ∧ (gb245 ≠ s_) ∧ (s_ ≠ gb245) ∧ (Below w.heap.size w w')) ?_ ?_
  rotate_left
  ·intro hJ4_9_10
   refine join_ (σ := Nat) 3 #[true, true, true, true, true, true, true, true, true, true, false, true, false, false] (fun s_ => [(11, .agg #[.int .i64 t246, .int .i64 t247]), (16, .agg #[.int .i64 t248, .int .i64 t249]), (6, .pointer (some ⟨s_, 0, none⟩))]) (fun s_ w' => (w'.cell? ⟨gb243, 0, none⟩ = some (.int .i64 a0_0) ∧ w'.cell? ⟨gb243, 1, none⟩ = some (.int .i64 a0_1) ∧ w'.cell? ⟨gb244, 0, none⟩ = some (.int .i64 a1_0) ∧ w'.cell? ⟨gb244, 1, none⟩ = some (.int .i64 a1_1)) ∧ (w'.heap[gb243]? = some (.cells #[.int .i64 a0_0, .int .i64 a0_1] 25 (0, 0))) ∧ (w'.heap[gb244]? = some (.cells #[.int .i64 a1_0, .int .i64 a1_1] 25 (0, 0))) ∧ (w'.heap[gb245]? = some (.cells #[.int .i64 0, .int .i64 0] 25 (0, 0))) ∧ (w'.heap[s_]? = some (.cells #[.int .i64 0, .int .i64 0] 25 (0, 0))) ∧ (w.heap.size ≤ s_) ∧ (w.heap.size ≤ s_) ∧ (gb243 ≠ s_) ∧ (s_ ≠ gb243) ∧ (gb244 ≠ s_) ∧ (s_ ≠ gb244) ∧ (gb245 ≠ s_) ∧ (s_ ≠ gb245) ∧ (Below w.heap.size w w')) ?_ ?_
   rotate_left
   ·intro hJ4_9_11
    refine join_ (σ := Nat × Nat) 3 #[true, true, true, true, true, true, true, true, true, false, true, true, false, false] (fun s_ => [(11, .agg #[.int .i64 t246, .int .i64 t247]), (5, .pointer (some ⟨s_.1, 0, none⟩)), (6, .pointer (some ⟨s_.2, 0, none⟩))]) (fun s_ w' => (w'.cell? ⟨gb243, 0, none⟩ = some (.int .i64 a0_0) ∧ w'.cell? ⟨gb243, 1, none⟩ = some (.int .i64 a0_1) ∧ w'.cell? ⟨gb244, 0, none⟩ = some (.int .i64 a1_0) ∧ w'.cell? ⟨gb244, 1, none⟩ = some (.int .i64 a1_1)) ∧ (w'.heap[gb243]? = some (.cells #[.int .i64 a0_0, .int .i64 a0_1] 25 (0, 0))) ∧ (w'.heap[gb244]? = some (.cells #[.int .i64 a1_0, .int .i64 a1_1] 25 (0, 0))) ∧ (w'.heap[gb245]? = some (.cells #[.int .i64 0, .int .i64 0] 25 (0, 0))) ∧ (w'.heap[s_.1]? = some (.cells #[.int .i64 0, .int .i64 0] 25 (0, 0))) ∧ (w'.heap[s_.2]? = some (.cells #[.int .i64 0, .int .i64 0] 25 (0, 0))) ∧ (w.heap.size ≤ s_.1) ∧ (w.heap.size ≤ s_.1) ∧ (gb243 ≠ s_.1) ∧ (s_.1 ≠ gb243) ∧ (gb244 ≠ s_.1) ∧ (s_.1 ≠ gb244) ∧ (gb245 ≠ s_.1) ∧ (s_.1 ≠ gb245) ∧ (s_.2 ≠ s_.1) ∧ (s_.1 ≠ s_.2) ∧ (w.heap.size ≤ s_.2) ∧ (w.heap.size ≤ s_.2) ∧ (gb243 ≠ s_.2) ∧ (s_.2 ≠ gb243) ∧ (gb244 ≠ s_.2) ∧ (s_.2 ≠ gb244) ∧ (gb245 ≠ s_.2) ∧ (s_.2 ≠ gb245) ∧ (Below w.heap.size w w')) ?_ ?_
    rotate_left
    ·intro hJ4_10_11
     refine join_ (σ := Unit) 4 #[true, true, true, true, true, true, true, true, true, true, false, false, false, false] (fun s_ => [(11, .agg #[.int .i64 t246, .int .i64 t247]), (16, .agg #[.int .i64 t248, .int .i64 t249])]) (fun s_ w' => (w'.cell? ⟨gb243, 0, none⟩ = some (.int .i64 a0_0) ∧ w'.cell? ⟨gb243, 1, none⟩ = some (.int .i64 a0_1) ∧ w'.cell? ⟨gb244, 0, none⟩ = some (.int .i64 a1_0) ∧ w'.cell? ⟨gb244, 1, none⟩ = some (.int .i64 a1_1)) ∧ (w'.heap[gb243]? = some (.cells #[.int .i64 a0_0, .int .i64 a0_1] 25 (0, 0))) ∧ (w'.heap[gb244]? = some (.cells #[.int .i64 a1_0, .int .i64 a1_1] 25 (0, 0))) ∧ (w'.heap[gb245]? = some (.cells #[.int .i64 0, .int .i64 0] 25 (0, 0))) ∧ (Below w.heap.size w w')) ?_ ?_
     rotate_left
     ·intro hJ4_9
      refine join_ (σ := Nat) 4 #[true, true, true, true, true, true, true, true, true, false, true, false, false, false] (fun s_ => [(11, .agg #[.int .i64 t246, .int .i64 t247]), (5, .pointer (some ⟨s_, 0, none⟩))]) (fun s_ w' => (w'.cell? ⟨gb243, 0, none⟩ = some (.int .i64 a0_0) ∧ w'.cell? ⟨gb243, 1, none⟩ = some (.int .i64 a0_1) ∧ w'.cell? ⟨gb244, 0, none⟩ = some (.int .i64 a1_0) ∧ w'.cell? ⟨gb244, 1, none⟩ = some (.int .i64 a1_1)) ∧ (w'.heap[gb243]? = some (.cells #[.int .i64 a0_0, .int .i64 a0_1] 25 (0, 0))) ∧ (w'.heap[gb244]? = some (.cells #[.int .i64 a1_0, .int .i64 a1_1] 25 (0, 0))) ∧ (w'.heap[gb245]? = some (.cells #[.int .i64 0, .int .i64 0] 25 (0, 0))) ∧ (w'.heap[s_]? = some (.cells #[.int .i64 0, .int .i64 0] 25 (0, 0))) ∧ (w.heap.size ≤ s_) ∧ (w.heap.size ≤ s_) ∧ (gb243 ≠ s_) ∧ (s_ ≠ gb243) ∧ (gb244 ≠ s_) ∧ (s_ ≠ gb244) ∧ (gb245 ≠ s_) ∧ (s_ ≠ gb245) ∧ (Below w.heap.size w w')) ?_ ?_
      rotate_left
      ·intro hJ4_10
       refine join_ (σ := Nat) 4 #[true, true, true, true, true, true, true, true, true, false, false, true, false, false] (fun s_ => [(11, .agg #[.int .i64 t246, .int .i64 t247]), (6, .pointer (some ⟨s_, 0, none⟩))]) (fun s_ w' => (w'.cell? ⟨gb243, 0, none⟩ = some (.int .i64 a0_0) ∧ w'.cell? ⟨gb243, 1, none⟩ = some (.int .i64 a0_1) ∧ w'.cell? ⟨gb244, 0, none⟩ = some (.int .i64 a1_0) ∧ w'.cell? ⟨gb244, 1, none⟩ = some (.int .i64 a1_1)) ∧ (w'.heap[gb243]? = some (.cells #[.int .i64 a0_0, .int .i64 a0_1] 25 (0, 0))) ∧ (w'.heap[gb244]? = some (.cells #[.int .i64 a1_0, .int .i64 a1_1] 25 (0, 0))) ∧ (w'.heap[gb245]? = some (.cells #[.int .i64 0, .int .i64 0] 25 (0, 0))) ∧ (w'.heap[s_]? = some (.cells #[.int .i64 0, .int .i64 0] 25 (0, 0))) ∧ (w.heap.size ≤ s_) ∧ (w.heap.size ≤ s_) ∧ (gb243 ≠ s_) ∧ (s_ ≠ gb243) ∧ (gb244 ≠ s_) ∧ (s_ ≠ gb244) ∧ (gb245 ≠ s_) ∧ (s_ ≠ gb245) ∧ (Below w.heap.size w w')) ?_ ?_
       rotate_left
       ·intro hJ4_11
        refine join_ (σ := Nat × Nat) 4 #[true, true, true, true, false, true, true, true, true, false, true, true, false, false] (fun s_ => [(5, .pointer (some ⟨s_.1, 0, none⟩)), (6, .pointer (some ⟨s_.2, 0, none⟩))]) (fun s_ w' => (w'.cell? ⟨gb243, 0, none⟩ = some (.int .i64 a0_0) ∧ w'.cell? ⟨gb243, 1, none⟩ = some (.int .i64 a0_1) ∧ w'.cell? ⟨gb244, 0, none⟩ = some (.int .i64 a1_0) ∧ w'.cell? ⟨gb244, 1, none⟩ = some (.int .i64 a1_1)) ∧ (w'.heap[gb243]? = some (.cells #[.int .i64 a0_0, .int .i64 a0_1] 25 (0, 0))) ∧ (w'.heap[gb244]? = some (.cells #[.int .i64 a1_0, .int .i64 a1_1] 25 (0, 0))) ∧ (w'.heap[gb245]? = some (.cells #[.int .i64 0, .int .i64 0] 25 (0, 0))) ∧ (w'.heap[s_.1]? = some (.cells #[.int .i64 0, .int .i64 0] 25 (0, 0))) ∧ (w'.heap[s_.2]? = some (.cells #[.int .i64 0, .int .i64 0] 25 (0, 0))) ∧ (w.heap.size ≤ s_.1) ∧ (w.heap.size ≤ s_.1) ∧ (gb243 ≠ s_.1) ∧ (s_.1 ≠ gb243) ∧ (gb244 ≠ s_.1) ∧ (s_.1 ≠ gb244) ∧ (gb245 ≠ s_.1) ∧ (s_.1 ≠ gb245) ∧ (s_.2 ≠ s_.1) ∧ (s_.1 ≠ s_.2) ∧ (w.heap.size ≤ s_.2) ∧ (w.heap.size ≤ s_.2) ∧ (gb243 ≠ s_.2) ∧ (s_.2 ≠ gb243) ∧ (gb244 ≠ s_.2) ∧ (s_.2 ≠ gb244) ∧ (gb245 ≠ s_.2) ∧ (s_.2 ≠ gb245) ∧ (Below w.heap.size w w')) ?_ ?_
        rotate_left
        ·intro hJ10_11
         refine join_ (σ := Unit) 5 #[true, true, true, true, true, true, true, true, true, false, false, false, false, false] (fun s_ => [(11, .agg #[.int .i64 t246, .int .i64 t247])]) (fun s_ w' => (w'.cell? ⟨gb243, 0, none⟩ = some (.int .i64 a0_0) ∧ w'.cell? ⟨gb243, 1, none⟩ = some (.int .i64 a0_1) ∧ w'.cell? ⟨gb244, 0, none⟩ = some (.int .i64 a1_0) ∧ w'.cell? ⟨gb244, 1, none⟩ = some (.int .i64 a1_1)) ∧ (w'.heap[gb243]? = some (.cells #[.int .i64 a0_0, .int .i64 a0_1] 25 (0, 0))) ∧ (w'.heap[gb244]? = some (.cells #[.int .i64 a1_0, .int .i64 a1_1] 25 (0, 0))) ∧ (w'.heap[gb245]? = some (.cells #[.int .i64 0, .int .i64 0] 25 (0, 0))) ∧ (Below w.heap.size w w')) ?_ ?_
         rotate_left
         ·intro hJ4
          refine join_ (σ := Nat) 5 #[true, true, true, true, false, true, true, true, true, false, true, false, false, false] (fun s_ => [(5, .pointer (some ⟨s_, 0, none⟩))]) (fun s_ w' => (w'.cell? ⟨gb243, 0, none⟩ = some (.int .i64 a0_0) ∧ w'.cell? ⟨gb243, 1, none⟩ = some (.int .i64 a0_1) ∧ w'.cell? ⟨gb244, 0, none⟩ = some (.int .i64 a1_0) ∧ w'.cell? ⟨gb244, 1, none⟩ = some (.int .i64 a1_1)) ∧ (w'.heap[gb243]? = some (.cells #[.int .i64 a0_0, .int .i64 a0_1] 25 (0, 0))) ∧ (w'.heap[gb244]? = some (.cells #[.int .i64 a1_0, .int .i64 a1_1] 25 (0, 0))) ∧ (w'.heap[gb245]? = some (.cells #[.int .i64 0, .int .i64 0] 25 (0, 0))) ∧ (w'.heap[s_]? = some (.cells #[.int .i64 0, .int .i64 0] 25 (0, 0))) ∧ (w.heap.size ≤ s_) ∧ (w.heap.size ≤ s_) ∧ (gb243 ≠ s_) ∧ (s_ ≠ gb243) ∧ (gb244 ≠ s_) ∧ (s_ ≠ gb244) ∧ (gb245 ≠ s_) ∧ (s_ ≠ gb245) ∧ (Below w.heap.size w w')) ?_ ?_
          rotate_left
          ·intro hJ10
           refine join_ (σ := Nat) 5 #[true, true, true, true, false, true, true, true, true, false, false, true, false, false] (fun s_ => [(6, .pointer (some ⟨s_, 0, none⟩))]) (fun s_ w' => (w'.cell? ⟨gb243, 0, none⟩ = some (.int .i64 a0_0) ∧ w'.cell? ⟨gb243, 1, none⟩ = some (.int .i64 a0_1) ∧ w'.cell? ⟨gb244, 0, none⟩ = some (.int .i64 a1_0) ∧ w'.cell? ⟨gb244, 1, none⟩ = some (.int .i64 a1_1)) ∧ (w'.heap[gb243]? = some (.cells #[.int .i64 a0_0, .int .i64 a0_1] 25 (0, 0))) ∧ (w'.heap[gb244]? = some (.cells #[.int .i64 a1_0, .int .i64 a1_1] 25 (0, 0))) ∧ (w'.heap[gb245]? = some (.cells #[.int .i64 0, .int .i64 0] 25 (0, 0))) ∧ (w'.heap[s_]? = some (.cells #[.int .i64 0, .int .i64 0] 25 (0, 0))) ∧ (w.heap.size ≤ s_) ∧ (w.heap.size ≤ s_) ∧ (gb243 ≠ s_) ∧ (s_ ≠ gb243) ∧ (gb244 ≠ s_) ∧ (s_ ≠ gb244) ∧ (gb245 ≠ s_) ∧ (s_ ≠ gb245) ∧ (Below w.heap.size w w')) ?_ ?_
           rotate_left
           ·intro hJ11
            refine three_ (i := 4) (j := 10) (k := 11) (Ni := some 11) (Nj := some 5) (Nk := some 6) #[true, true, true, true, true, true, true, true, true, false, false, false, false, false] #[true, true, true, true, false, true, true, true, true, false, true, false, false, false] #[true, true, true, true, false, true, true, true, true, false, false, true, false, false] rfl rfl rfl rfl rfl rfl (three_of HT_.out (by kernel_rfl)) (by decide) (by decide) (by decide) (fun K hK => ?_) (fun K hK => ?_) (fun K hK => ?_)
            ·skip
             refine goes_ Try.func60 (by kernel_rfl) rfl #[.int .i64 a0_0, .int .i64 a1_1] (by rfl) rfl rfl al_ ?_
             with_reducible refine (comfitref04_frac.calls k a0_0 a1_1 t246 t247 _ A3.out).mono ?_
             rintro e w9 ⟨rfl, hb⟩
             refine ⟨_, rfl, ?_⟩
             have n0_ := Aside0.mk (bkb_ BK243.out hb)
             have n1_ := Aside0.mk (bkb_ BK244.out hb)
             have n2_ := Aside0.mk (bkb_ BK245.out hb)
             have n3_ := Aside0.mk (below_step (hb_ HB.out) hb)
             clear BK243
             clear BK244
             clear BK245
             clear HB
             have BK243 := n0_
             have BK244 := n1_
             have BK245 := n2_
             have HB := n3_
             clear n0_ n1_ n2_ n3_
             (try clear hb)
             (try clear hb2)
             (try clear hk)
             (try clear hi)
             refine hK.out _ _ ⟨(blk_cell BK243.out 0).trans rfl, (blk_cell BK243.out 1).trans rfl, (blk_cell BK244.out 0).trans rfl, (blk_cell BK244.out 1).trans rfl⟩ (fun hHeld => ?_)
             clear hK K
             refine norm_ (a' := ?_) ?_ ?_
             rotate_left
             ·show Act.put _ (some 11) _ = _
              simp only [Act.put, List.setIfInBounds_toArray, List.set_cons_zero, List.set_cons_succ, i64_w, i32_w]
              rfl
             exact norm_ (by first | (simp only [putAll, Act.put, List.setIfInBounds_toArray, List.set_cons_zero, List.set_cons_succ]; done) | (simp only [putAll, Act.put, List.setIfInBounds_toArray, List.set_cons_zero, List.set_cons_succ]; rfl)) (hJ4 () _ ⟨hHeld, (bk_ BK243.out), (bk_ BK244.out), (bk_ BK245.out), (hb_ HB.out)⟩)
            ·skip
             refine box_step ?hg (N := 5) ?hd (cs := #[.int .i64 0, .int .i64 0]) (t := 25) ?hr ?_; (case hd => rfl); (case hg => rfl); (case hr => first | (go_simp; done) | (go_simp; rfl))
             intro gb250 hg w9 hbox hb
             have n0_ := Aside0.mk (bkb_ BK243.out hb)
             have n1_ := Aside0.mk (bkb_ BK244.out hb)
             have n2_ := Aside0.mk (bkb_ BK245.out hb)
             have n3_ := Aside0.mk (below_step (hb_ HB.out) hb)
             have n4_ := Aside0.mk (hbox)
             have n5_ := Aside0.mk ((by rw [hg]; exact (below_size (hb_ HB.out)) : w.heap.size ≤ gb250))
             have n6_ := Aside0.mk ((by rw [hg]; exact (below_size (hb_ HB.out)) : w.heap.size ≤ gb250))
             have n7_ := Aside0.mk ((by rw [hg]; exact Nat.ne_of_lt (bkl_ BK243.out) : gb243 ≠ gb250))
             have n8_ := Aside0.mk ((by rw [hg]; exact Nat.ne_of_gt (bkl_ BK243.out) : gb250 ≠ gb243))
             have n9_ := Aside0.mk ((by rw [hg]; exact Nat.ne_of_lt (bkl_ BK244.out) : gb244 ≠ gb250))
             have n10_ := Aside0.mk ((by rw [hg]; exact Nat.ne_of_gt (bkl_ BK244.out) : gb250 ≠ gb244))
             have n11_ := Aside0.mk ((by rw [hg]; exact Nat.ne_of_lt (bkl_ BK245.out) : gb245 ≠ gb250))
             have n12_ := Aside0.mk ((by rw [hg]; exact Nat.ne_of_gt (bkl_ BK245.out) : gb250 ≠ gb245))
             clear BK243
             clear BK244
             clear BK245
             clear HB
             have BK243 := n0_
             have BK244 := n1_
             have BK245 := n2_
             have HB := n3_
             have BK250 := n4_
             have GW250 := n5_
             have GE250 := n6_
             have NB243_250 := n7_
             have NB250_243 := n8_
             have NB244_250 := n9_
             have NB250_244 := n10_
             have NB245_250 := n11_
             have NB250_245 := n12_
             clear n0_ n1_ n2_ n3_ n4_ n5_ n6_ n7_ n8_ n9_ n10_ n11_ n12_
             clear hb hbox hg
             refine hK.out _ _ ⟨(blk_cell BK243.out 0).trans rfl, (blk_cell BK243.out 1).trans rfl, (blk_cell BK244.out 0).trans rfl, (blk_cell BK244.out 1).trans rfl⟩ (fun hHeld => ?_)
             clear hK K
             refine norm_ (a' := ?_) ?_ ?_
             rotate_left
             ·show Act.put _ (some 5) _ = _
              simp only [Act.put, List.setIfInBounds_toArray, List.set_cons_zero, List.set_cons_succ, i64_w, i32_w]
              rfl
             exact norm_ (by first | (simp only [putAll, Act.put, List.setIfInBounds_toArray, List.set_cons_zero, List.set_cons_succ]; done) | (simp only [putAll, Act.put, List.setIfInBounds_toArray, List.set_cons_zero, List.set_cons_succ]; rfl)) (hJ10 (gb250) _ ⟨hHeld, (bk_ BK243.out), (bk_ BK244.out), (bk_ BK245.out), (bk_ BK250.out), GW250.out, GE250.out, NB243_250.out, NB250_243.out, NB244_250.out, NB250_244.out, NB245_250.out, NB250_245.out, (hb_ HB.out)⟩)
            ·skip
             refine box_step ?hg (N := 6) ?hd (cs := #[.int .i64 0, .int .i64 0]) (t := 25) ?hr ?_; (case hd => rfl); (case hg => rfl); (case hr => first | (go_simp; done) | (go_simp; rfl))
             intro gb251 hg w9 hbox hb
             have n0_ := Aside0.mk (bkb_ BK243.out hb)
             have n1_ := Aside0.mk (bkb_ BK244.out hb)
             have n2_ := Aside0.mk (bkb_ BK245.out hb)
             have n3_ := Aside0.mk (below_step (hb_ HB.out) hb)
             have n4_ := Aside0.mk (hbox)
             have n5_ := Aside0.mk ((by rw [hg]; exact (below_size (hb_ HB.out)) : w.heap.size ≤ gb251))
             have n6_ := Aside0.mk ((by rw [hg]; exact (below_size (hb_ HB.out)) : w.heap.size ≤ gb251))
             have n7_ := Aside0.mk ((by rw [hg]; exact Nat.ne_of_lt (bkl_ BK243.out) : gb243 ≠ gb251))
             have n8_ := Aside0.mk ((by rw [hg]; exact Nat.ne_of_gt (bkl_ BK243.out) : gb251 ≠ gb243))
             have n9_ := Aside0.mk ((by rw [hg]; exact Nat.ne_of_lt (bkl_ BK244.out) : gb244 ≠ gb251))
             have n10_ := Aside0.mk ((by rw [hg]; exact Nat.ne_of_gt (bkl_ BK244.out) : gb251 ≠ gb244))
             have n11_ := Aside0.mk ((by rw [hg]; exact Nat.ne_of_lt (bkl_ BK245.out) : gb245 ≠ gb251))
             have n12_ := Aside0.mk ((by rw [hg]; exact Nat.ne_of_gt (bkl_ BK245.out) : gb251 ≠ gb245))
             clear BK243
             clear BK244
             clear BK245
             clear HB
             have BK243 := n0_
             have BK244 := n1_
             have BK245 := n2_
             have HB := n3_
             have BK251 := n4_
             have GW251 := n5_
             have GE251 := n6_
             have NB243_251 := n7_
             have NB251_243 := n8_
             have NB244_251 := n9_
             have NB251_244 := n10_
             have NB245_251 := n11_
             have NB251_245 := n12_
             clear n0_ n1_ n2_ n3_ n4_ n5_ n6_ n7_ n8_ n9_ n10_ n11_ n12_
             clear hb hbox hg
             refine hK.out _ _ ⟨(blk_cell BK243.out 0).trans rfl, (blk_cell BK243.out 1).trans rfl, (blk_cell BK244.out 0).trans rfl, (blk_cell BK244.out 1).trans rfl⟩ (fun hHeld => ?_)
             clear hK K
             refine norm_ (a' := ?_) ?_ ?_
             rotate_left
             ·show Act.put _ (some 6) _ = _
              simp only [Act.put, List.setIfInBounds_toArray, List.set_cons_zero, List.set_cons_succ, i64_w, i32_w]
              rfl
             exact norm_ (by first | (simp only [putAll, Act.put, List.setIfInBounds_toArray, List.set_cons_zero, List.set_cons_succ]; done) | (simp only [putAll, Act.put, List.setIfInBounds_toArray, List.set_cons_zero, List.set_cons_succ]; rfl)) (hJ11 (gb251) _ ⟨hHeld, (bk_ BK243.out), (bk_ BK244.out), (bk_ BK245.out), (bk_ BK251.out), GW251.out, GE251.out, NB243_251.out, NB251_243.out, NB244_251.out, NB251_244.out, NB245_251.out, NB251_245.out, (hb_ HB.out)⟩)
           ·skip
            rintro gb251 w10 ⟨hS_, h0_, h1_, h2_, h3_, h4_, h5_, h6_, h7_, h8_, h9_, h10_, h11_, h12_⟩
            have n0_ : Aside0 (w10.heap[gb243]? = some (.cells #[.int .i64 a0_0, .int .i64 a0_1] 25 (0, 0))) := ⟨h0_⟩
            have n1_ : Aside0 (w10.heap[gb244]? = some (.cells #[.int .i64 a1_0, .int .i64 a1_1] 25 (0, 0))) := ⟨h1_⟩
            have n2_ : Aside0 (w10.heap[gb245]? = some (.cells #[.int .i64 0, .int .i64 0] 25 (0, 0))) := ⟨h2_⟩
            have n3_ : Aside0 (w10.heap[gb251]? = some (.cells #[.int .i64 0, .int .i64 0] 25 (0, 0))) := ⟨h3_⟩
            have n4_ : Aside0 (w.heap.size ≤ gb251) := ⟨h4_⟩
            have n5_ : Aside0 (w.heap.size ≤ gb251) := ⟨h5_⟩
            have n6_ : Aside0 (gb243 ≠ gb251) := ⟨h6_⟩
            have n7_ : Aside0 (gb251 ≠ gb243) := ⟨h7_⟩
            have n8_ : Aside0 (gb244 ≠ gb251) := ⟨h8_⟩
            have n9_ : Aside0 (gb251 ≠ gb244) := ⟨h9_⟩
            have n10_ : Aside0 (gb245 ≠ gb251) := ⟨h10_⟩
            have n11_ : Aside0 (gb251 ≠ gb245) := ⟨h11_⟩
            have n12_ : Aside0 (Below w.heap.size w w10) := ⟨h12_⟩
            clear BK243
            clear BK244
            clear BK245
            clear HB
            clear h0_ h1_ h2_ h3_ h4_ h5_ h6_ h7_ h8_ h9_ h10_ h11_ h12_
            have BK243 := n0_
            have BK244 := n1_
            have BK245 := n2_
            have BK251 := n3_
            have GW251 := n4_
            have GE251 := n5_
            have NB243_251 := n6_
            have NB251_243 := n7_
            have NB244_251 := n8_
            have NB251_244 := n9_
            have NB245_251 := n10_
            have NB251_245 := n11_
            have HB := n12_
            clear n0_ n1_ n2_ n3_ n4_ n5_ n6_ n7_ n8_ n9_ n10_ n11_ n12_
            have hHeld : w10.cell? ⟨gb243, 0, none⟩ = some (.int .i64 a0_0) ∧ w10.cell? ⟨gb243, 1, none⟩ = some (.int .i64 a0_1) ∧ w10.cell? ⟨gb244, 0, none⟩ = some (.int .i64 a1_0) ∧ w10.cell? ⟨gb244, 1, none⟩ = some (.int .i64 a1_1) := hS_
            refine norm_ (a' := ?_) ?_ ?_
            rotate_left
            ·simp only [putAll, Act.put, List.setIfInBounds_toArray, List.set_cons_zero, List.set_cons_succ]
             rfl
            refine two_ (i := 4) (j := 10) (Ni := some 11) (Nj := some 5) #[true, true, true, true, true, true, true, true, true, false, false, true, false, false] #[true, true, true, true, false, true, true, true, true, false, true, true, false, false] rfl rfl rfl rfl (two_of HT_.out (by kernel_rfl)) (by decide) (by decide) (fun K hK => ?_) (fun K hK => ?_)
            ·skip
             refine goes_ Try.func60 (by kernel_rfl) rfl #[.int .i64 a0_0, .int .i64 a1_1] (by rfl) rfl rfl al_ ?_
             with_reducible refine (comfitref04_frac.calls k a0_0 a1_1 t246 t247 _ A3.out).mono ?_
             rintro e w11 ⟨rfl, hb⟩
             refine ⟨_, rfl, ?_⟩
             have n0_ := Aside0.mk (bkb_ BK243.out hb)
             have n1_ := Aside0.mk (bkb_ BK244.out hb)
             have n2_ := Aside0.mk (bkb_ BK245.out hb)
             have n3_ := Aside0.mk (bkb_ BK251.out hb)
             have n4_ := Aside0.mk (below_step (hb_ HB.out) hb)
             clear BK243
             clear BK244
             clear BK245
             clear BK251
             clear HB
             have BK243 := n0_
             have BK244 := n1_
             have BK245 := n2_
             have BK251 := n3_
             have HB := n4_
             clear n0_ n1_ n2_ n3_ n4_
             (try clear hb)
             (try clear hb2)
             (try clear hk)
             (try clear hi)
             refine hK.out _ _ ⟨(blk_cell BK243.out 0).trans rfl, (blk_cell BK243.out 1).trans rfl, (blk_cell BK244.out 0).trans rfl, (blk_cell BK244.out 1).trans rfl⟩ (fun hHeld => ?_)
             clear hK K
             refine norm_ (a' := ?_) ?_ ?_
             rotate_left
             ·show Act.put _ (some 11) _ = _
              simp only [Act.put, List.setIfInBounds_toArray, List.set_cons_zero, List.set_cons_succ, i64_w, i32_w]
              rfl
             exact norm_ (by first | (simp only [putAll, Act.put, List.setIfInBounds_toArray, List.set_cons_zero, List.set_cons_succ]; done) | (simp only [putAll, Act.put, List.setIfInBounds_toArray, List.set_cons_zero, List.set_cons_succ]; rfl)) (hJ4_11 (gb251) _ ⟨hHeld, (bk_ BK243.out), (bk_ BK244.out), (bk_ BK245.out), (bk_ BK251.out), GW251.out, GE251.out, NB243_251.out, NB251_243.out, NB244_251.out, NB251_244.out, NB245_251.out, NB251_245.out, (hb_ HB.out)⟩)
            ·skip
             refine box_step ?hg (N := 5) ?hd (cs := #[.int .i64 0, .int .i64 0]) (t := 25) ?hr ?_; (case hd => rfl); (case hg => rfl); (case hr => first | (go_simp; done) | (go_simp; rfl))
             intro gb250 hg w11 hbox hb
             have n0_ := Aside0.mk (bkb_ BK243.out hb)
             have n1_ := Aside0.mk (bkb_ BK244.out hb)
             have n2_ := Aside0.mk (bkb_ BK245.out hb)
             have n3_ := Aside0.mk (bkb_ BK251.out hb)
             have n4_ := Aside0.mk (below_step (hb_ HB.out) hb)
             have n5_ := Aside0.mk (hbox)
             have n6_ := Aside0.mk ((by rw [hg]; exact (below_size (hb_ HB.out)) : w.heap.size ≤ gb250))
             have n7_ := Aside0.mk ((by rw [hg]; exact (below_size (hb_ HB.out)) : w.heap.size ≤ gb250))
             have n8_ := Aside0.mk ((by rw [hg]; exact Nat.ne_of_lt (bkl_ BK243.out) : gb243 ≠ gb250))
             have n9_ := Aside0.mk ((by rw [hg]; exact Nat.ne_of_gt (bkl_ BK243.out) : gb250 ≠ gb243))
             have n10_ := Aside0.mk ((by rw [hg]; exact Nat.ne_of_lt (bkl_ BK244.out) : gb244 ≠ gb250))
             have n11_ := Aside0.mk ((by rw [hg]; exact Nat.ne_of_gt (bkl_ BK244.out) : gb250 ≠ gb244))
             have n12_ := Aside0.mk ((by rw [hg]; exact Nat.ne_of_lt (bkl_ BK245.out) : gb245 ≠ gb250))
             have n13_ := Aside0.mk ((by rw [hg]; exact Nat.ne_of_gt (bkl_ BK245.out) : gb250 ≠ gb245))
             have n14_ := Aside0.mk ((by rw [hg]; exact Nat.ne_of_lt (bkl_ BK251.out) : gb251 ≠ gb250))
             have n15_ := Aside0.mk ((by rw [hg]; exact Nat.ne_of_gt (bkl_ BK251.out) : gb250 ≠ gb251))
             clear BK243
             clear BK244
             clear BK245
             clear BK251
             clear HB
             have BK243 := n0_
             have BK244 := n1_
             have BK245 := n2_
             have BK251 := n3_
             have HB := n4_
             have BK250 := n5_
             have GW250 := n6_
             have GE250 := n7_
             have NB243_250 := n8_
             have NB250_243 := n9_
             have NB244_250 := n10_
             have NB250_244 := n11_
             have NB245_250 := n12_
             have NB250_245 := n13_
             have NB251_250 := n14_
             have NB250_251 := n15_
             clear n0_ n1_ n2_ n3_ n4_ n5_ n6_ n7_ n8_ n9_ n10_ n11_ n12_ n13_ n14_ n15_
             clear hb hbox hg
             refine hK.out _ _ ⟨(blk_cell BK243.out 0).trans rfl, (blk_cell BK243.out 1).trans rfl, (blk_cell BK244.out 0).trans rfl, (blk_cell BK244.out 1).trans rfl⟩ (fun hHeld => ?_)
             clear hK K
             refine norm_ (a' := ?_) ?_ ?_
             rotate_left
             ·show Act.put _ (some 5) _ = _
              simp only [Act.put, List.setIfInBounds_toArray, List.set_cons_zero, List.set_cons_succ, i64_w, i32_w]
              rfl
             exact norm_ (by first | (simp only [putAll, Act.put, List.setIfInBounds_toArray, List.set_cons_zero, List.set_cons_succ]; done) | (simp only [putAll, Act.put, List.setIfInBounds_toArray, List.set_cons_zero, List.set_cons_succ]; rfl)) (hJ10_11 (gb250, gb251) _ ⟨hHeld, (bk_ BK243.out), (bk_ BK244.out), (bk_ BK245.out), (bk_ BK250.out), (bk_ BK251.out), GW250.out, GE250.out, NB243_250.out, NB250_243.out, NB244_250.out, NB250_244.out, NB245_250.out, NB250_245.out, NB251_250.out, NB250_251.out, GW251.out, GE251.out, NB243_251.out, NB251_243.out, NB244_251.out, NB251_244.out, NB245_251.out, NB251_245.out, (hb_ HB.out)⟩)
          ·skip
           rintro gb250 w10 ⟨hS_, h0_, h1_, h2_, h3_, h4_, h5_, h6_, h7_, h8_, h9_, h10_, h11_, h12_⟩
           have n0_ : Aside0 (w10.heap[gb243]? = some (.cells #[.int .i64 a0_0, .int .i64 a0_1] 25 (0, 0))) := ⟨h0_⟩
           have n1_ : Aside0 (w10.heap[gb244]? = some (.cells #[.int .i64 a1_0, .int .i64 a1_1] 25 (0, 0))) := ⟨h1_⟩
           have n2_ : Aside0 (w10.heap[gb245]? = some (.cells #[.int .i64 0, .int .i64 0] 25 (0, 0))) := ⟨h2_⟩
           have n3_ : Aside0 (w10.heap[gb250]? = some (.cells #[.int .i64 0, .int .i64 0] 25 (0, 0))) := ⟨h3_⟩
           have n4_ : Aside0 (w.heap.size ≤ gb250) := ⟨h4_⟩
           have n5_ : Aside0 (w.heap.size ≤ gb250) := ⟨h5_⟩
           have n6_ : Aside0 (gb243 ≠ gb250) := ⟨h6_⟩
           have n7_ : Aside0 (gb250 ≠ gb243) := ⟨h7_⟩
           have n8_ : Aside0 (gb244 ≠ gb250) := ⟨h8_⟩
           have n9_ : Aside0 (gb250 ≠ gb244) := ⟨h9_⟩
           have n10_ : Aside0 (gb245 ≠ gb250) := ⟨h10_⟩
           have n11_ : Aside0 (gb250 ≠ gb245) := ⟨h11_⟩
           have n12_ : Aside0 (Below w.heap.size w w10) := ⟨h12_⟩
           clear BK243
           clear BK244
           clear BK245
           clear HB
           clear h0_ h1_ h2_ h3_ h4_ h5_ h6_ h7_ h8_ h9_ h10_ h11_ h12_
           have BK243 := n0_
           have BK244 := n1_
           have BK245 := n2_
           have BK250 := n3_
           have GW250 := n4_
           have GE250 := n5_
           have NB243_250 := n6_
           have NB250_243 := n7_
           have NB244_250 := n8_
           have NB250_244 := n9_
           have NB245_250 := n10_
           have NB250_245 := n11_
           have HB := n12_
           clear n0_ n1_ n2_ n3_ n4_ n5_ n6_ n7_ n8_ n9_ n10_ n11_ n12_
           have hHeld : w10.cell? ⟨gb243, 0, none⟩ = some (.int .i64 a0_0) ∧ w10.cell? ⟨gb243, 1, none⟩ = some (.int .i64 a0_1) ∧ w10.cell? ⟨gb244, 0, none⟩ = some (.int .i64 a1_0) ∧ w10.cell? ⟨gb244, 1, none⟩ = some (.int .i64 a1_1) := hS_
           refine norm_ (a' := ?_) ?_ ?_
           rotate_left
           ·simp only [putAll, Act.put, List.setIfInBounds_toArray, List.set_cons_zero, List.set_cons_succ]
            rfl
           refine two_ (i := 4) (j := 11) (Ni := some 11) (Nj := some 6) #[true, true, true, true, true, true, true, true, true, false, true, false, false, false] #[true, true, true, true, false, true, true, true, true, false, true, true, false, false] rfl rfl rfl rfl (two_of HT_.out (by kernel_rfl)) (by decide) (by decide) (fun K hK => ?_) (fun K hK => ?_)
           ·skip
            refine goes_ Try.func60 (by kernel_rfl) rfl #[.int .i64 a0_0, .int .i64 a1_1] (by rfl) rfl rfl al_ ?_
            with_reducible refine (comfitref04_frac.calls k a0_0 a1_1 t246 t247 _ A3.out).mono ?_
            rintro e w11 ⟨rfl, hb⟩
            refine ⟨_, rfl, ?_⟩
            have n0_ := Aside0.mk (bkb_ BK243.out hb)
            have n1_ := Aside0.mk (bkb_ BK244.out hb)
            have n2_ := Aside0.mk (bkb_ BK245.out hb)
            have n3_ := Aside0.mk (bkb_ BK250.out hb)
            have n4_ := Aside0.mk (below_step (hb_ HB.out) hb)
            clear BK243
            clear BK244
            clear BK245
            clear BK250
            clear HB
            have BK243 := n0_
            have BK244 := n1_
            have BK245 := n2_
            have BK250 := n3_
            have HB := n4_
            clear n0_ n1_ n2_ n3_ n4_
            (try clear hb)
            (try clear hb2)
            (try clear hk)
            (try clear hi)
            refine hK.out _ _ ⟨(blk_cell BK243.out 0).trans rfl, (blk_cell BK243.out 1).trans rfl, (blk_cell BK244.out 0).trans rfl, (blk_cell BK244.out 1).trans rfl⟩ (fun hHeld => ?_)
            clear hK K
            refine norm_ (a' := ?_) ?_ ?_
            rotate_left
            ·show Act.put _ (some 11) _ = _
             simp only [Act.put, List.setIfInBounds_toArray, List.set_cons_zero, List.set_cons_succ, i64_w, i32_w]
             rfl
            exact norm_ (by first | (simp only [putAll, Act.put, List.setIfInBounds_toArray, List.set_cons_zero, List.set_cons_succ]; done) | (simp only [putAll, Act.put, List.setIfInBounds_toArray, List.set_cons_zero, List.set_cons_succ]; rfl)) (hJ4_10 (gb250) _ ⟨hHeld, (bk_ BK243.out), (bk_ BK244.out), (bk_ BK245.out), (bk_ BK250.out), GW250.out, GE250.out, NB243_250.out, NB250_243.out, NB244_250.out, NB250_244.out, NB245_250.out, NB250_245.out, (hb_ HB.out)⟩)
           ·skip
            refine box_step ?hg (N := 6) ?hd (cs := #[.int .i64 0, .int .i64 0]) (t := 25) ?hr ?_; (case hd => rfl); (case hg => rfl); (case hr => first | (go_simp; done) | (go_simp; rfl))
            intro gb251 hg w11 hbox hb
            have n0_ := Aside0.mk (bkb_ BK243.out hb)
            have n1_ := Aside0.mk (bkb_ BK244.out hb)
            have n2_ := Aside0.mk (bkb_ BK245.out hb)
            have n3_ := Aside0.mk (bkb_ BK250.out hb)
            have n4_ := Aside0.mk (below_step (hb_ HB.out) hb)
            have n5_ := Aside0.mk (hbox)
            have n6_ := Aside0.mk ((by rw [hg]; exact (below_size (hb_ HB.out)) : w.heap.size ≤ gb251))
            have n7_ := Aside0.mk ((by rw [hg]; exact (below_size (hb_ HB.out)) : w.heap.size ≤ gb251))
            have n8_ := Aside0.mk ((by rw [hg]; exact Nat.ne_of_lt (bkl_ BK243.out) : gb243 ≠ gb251))
            have n9_ := Aside0.mk ((by rw [hg]; exact Nat.ne_of_gt (bkl_ BK243.out) : gb251 ≠ gb243))
            have n10_ := Aside0.mk ((by rw [hg]; exact Nat.ne_of_lt (bkl_ BK244.out) : gb244 ≠ gb251))
            have n11_ := Aside0.mk ((by rw [hg]; exact Nat.ne_of_gt (bkl_ BK244.out) : gb251 ≠ gb244))
            have n12_ := Aside0.mk ((by rw [hg]; exact Nat.ne_of_lt (bkl_ BK245.out) : gb245 ≠ gb251))
            have n13_ := Aside0.mk ((by rw [hg]; exact Nat.ne_of_gt (bkl_ BK245.out) : gb251 ≠ gb245))
            have n14_ := Aside0.mk ((by rw [hg]; exact Nat.ne_of_lt (bkl_ BK250.out) : gb250 ≠ gb251))
            have n15_ := Aside0.mk ((by rw [hg]; exact Nat.ne_of_gt (bkl_ BK250.out) : gb251 ≠ gb250))
            clear BK243
            clear BK244
            clear BK245
            clear BK250
            clear HB
            have BK243 := n0_
            have BK244 := n1_
            have BK245 := n2_
            have BK250 := n3_
            have HB := n4_
            have BK251 := n5_
            have GW251 := n6_
            have GE251 := n7_
            have NB243_251 := n8_
            have NB251_243 := n9_
            have NB244_251 := n10_
            have NB251_244 := n11_
            have NB245_251 := n12_
            have NB251_245 := n13_
            have NB250_251 := n14_
            have NB251_250 := n15_
            clear n0_ n1_ n2_ n3_ n4_ n5_ n6_ n7_ n8_ n9_ n10_ n11_ n12_ n13_ n14_ n15_
            clear hb hbox hg
            refine hK.out _ _ ⟨(blk_cell BK243.out 0).trans rfl, (blk_cell BK243.out 1).trans rfl, (blk_cell BK244.out 0).trans rfl, (blk_cell BK244.out 1).trans rfl⟩ (fun hHeld => ?_)
            clear hK K
            refine norm_ (a' := ?_) ?_ ?_
            rotate_left
            ·show Act.put _ (some 6) _ = _
             simp only [Act.put, List.setIfInBounds_toArray, List.set_cons_zero, List.set_cons_succ, i64_w, i32_w]
             rfl
            exact norm_ (by first | (simp only [putAll, Act.put, List.setIfInBounds_toArray, List.set_cons_zero, List.set_cons_succ]; done) | (simp only [putAll, Act.put, List.setIfInBounds_toArray, List.set_cons_zero, List.set_cons_succ]; rfl)) (hJ10_11 (gb250, gb251) _ ⟨hHeld, (bk_ BK243.out), (bk_ BK244.out), (bk_ BK245.out), (bk_ BK250.out), (bk_ BK251.out), GW250.out, GE250.out, NB243_250.out, NB250_243.out, NB244_250.out, NB250_244.out, NB245_250.out, NB250_245.out, NB251_250.out, NB250_251.out, GW251.out, GE251.out, NB243_251.out, NB251_243.out, NB244_251.out, NB251_244.out, NB245_251.out, NB251_245.out, (hb_ HB.out)⟩)
         ·skip
          rintro _ w10 ⟨hS_, h0_, h1_, h2_, h3_⟩
          have n0_ : Aside0 (w10.heap[gb243]? = some (.cells #[.int .i64 a0_0, .int .i64 a0_1] 25 (0, 0))) := ⟨h0_⟩
          have n1_ : Aside0 (w10.heap[gb244]? = some (.cells #[.int .i64 a1_0, .int .i64 a1_1] 25 (0, 0))) := ⟨h1_⟩
          have n2_ : Aside0 (w10.heap[gb245]? = some (.cells #[.int .i64 0, .int .i64 0] 25 (0, 0))) := ⟨h2_⟩
          have n3_ : Aside0 (Below w.heap.size w w10) := ⟨h3_⟩
          clear BK243
          clear BK244
          clear BK245
          clear HB
          clear h0_ h1_ h2_ h3_
          have BK243 := n0_
          have BK244 := n1_
          have BK245 := n2_
          have HB := n3_
          clear n0_ n1_ n2_ n3_
          have hHeld : w10.cell? ⟨gb243, 0, none⟩ = some (.int .i64 a0_0) ∧ w10.cell? ⟨gb243, 1, none⟩ = some (.int .i64 a0_1) ∧ w10.cell? ⟨gb244, 0, none⟩ = some (.int .i64 a1_0) ∧ w10.cell? ⟨gb244, 1, none⟩ = some (.int .i64 a1_1) := hS_
          refine norm_ (a' := ?_) ?_ ?_
          rotate_left
          ·simp only [putAll, Act.put, List.setIfInBounds_toArray, List.set_cons_zero, List.set_cons_succ]
           rfl
          refine three_ (i := 9) (j := 10) (k := 11) (Ni := some 16) (Nj := some 5) (Nk := some 6) #[true, true, true, true, true, true, true, true, true, true, false, false, false, false] #[true, true, true, true, true, true, true, true, true, false, true, false, false, false] #[true, true, true, true, true, true, true, true, true, false, false, true, false, false] rfl rfl rfl rfl rfl rfl (three_of HT_.out (by kernel_rfl)) (by decide) (by decide) (by decide) (fun K hK => ?_) (fun K hK => ?_) (fun K hK => ?_)
          ·skip
           refine goes_ Try.func60 (by kernel_rfl) rfl #[.int .i64 a1_0, .int .i64 a0_1] (by rfl) rfl rfl al_ ?_
           with_reducible refine (comfitref04_frac.calls k a1_0 a0_1 t248 t249 _ A4.out).mono ?_
           rintro e w11 ⟨rfl, hb⟩
           refine ⟨_, rfl, ?_⟩
           have n0_ := Aside0.mk (bkb_ BK243.out hb)
           have n1_ := Aside0.mk (bkb_ BK244.out hb)
           have n2_ := Aside0.mk (bkb_ BK245.out hb)
           have n3_ := Aside0.mk (below_step (hb_ HB.out) hb)
           clear BK243
           clear BK244
           clear BK245
           clear HB
           have BK243 := n0_
           have BK244 := n1_
           have BK245 := n2_
           have HB := n3_
           clear n0_ n1_ n2_ n3_
           (try clear hb)
           (try clear hb2)
           (try clear hk)
           (try clear hi)
           refine hK.out _ _ ⟨(blk_cell BK243.out 0).trans rfl, (blk_cell BK243.out 1).trans rfl, (blk_cell BK244.out 0).trans rfl, (blk_cell BK244.out 1).trans rfl⟩ (fun hHeld => ?_)
           clear hK K
           refine norm_ (a' := ?_) ?_ ?_
           rotate_left
           ·show Act.put _ (some 16) _ = _
            simp only [Act.put, List.setIfInBounds_toArray, List.set_cons_zero, List.set_cons_succ, i64_w, i32_w]
            rfl
           exact norm_ (by first | (simp only [putAll, Act.put, List.setIfInBounds_toArray, List.set_cons_zero, List.set_cons_succ]; done) | (simp only [putAll, Act.put, List.setIfInBounds_toArray, List.set_cons_zero, List.set_cons_succ]; rfl)) (hJ4_9 () _ ⟨hHeld, (bk_ BK243.out), (bk_ BK244.out), (bk_ BK245.out), (hb_ HB.out)⟩)
          ·skip
           refine box_step ?hg (N := 5) ?hd (cs := #[.int .i64 0, .int .i64 0]) (t := 25) ?hr ?_; (case hd => rfl); (case hg => rfl); (case hr => first | (go_simp; done) | (go_simp; rfl))
           intro gb250 hg w11 hbox hb
           have n0_ := Aside0.mk (bkb_ BK243.out hb)
           have n1_ := Aside0.mk (bkb_ BK244.out hb)
           have n2_ := Aside0.mk (bkb_ BK245.out hb)
           have n3_ := Aside0.mk (below_step (hb_ HB.out) hb)
           have n4_ := Aside0.mk (hbox)
           have n5_ := Aside0.mk ((by rw [hg]; exact (below_size (hb_ HB.out)) : w.heap.size ≤ gb250))
           have n6_ := Aside0.mk ((by rw [hg]; exact (below_size (hb_ HB.out)) : w.heap.size ≤ gb250))
           have n7_ := Aside0.mk ((by rw [hg]; exact Nat.ne_of_lt (bkl_ BK243.out) : gb243 ≠ gb250))
           have n8_ := Aside0.mk ((by rw [hg]; exact Nat.ne_of_gt (bkl_ BK243.out) : gb250 ≠ gb243))
           have n9_ := Aside0.mk ((by rw [hg]; exact Nat.ne_of_lt (bkl_ BK244.out) : gb244 ≠ gb250))
           have n10_ := Aside0.mk ((by rw [hg]; exact Nat.ne_of_gt (bkl_ BK244.out) : gb250 ≠ gb244))
           have n11_ := Aside0.mk ((by rw [hg]; exact Nat.ne_of_lt (bkl_ BK245.out) : gb245 ≠ gb250))
           have n12_ := Aside0.mk ((by rw [hg]; exact Nat.ne_of_gt (bkl_ BK245.out) : gb250 ≠ gb245))
           clear BK243
           clear BK244
           clear BK245
           clear HB
           have BK243 := n0_
           have BK244 := n1_
           have BK245 := n2_
           have HB := n3_
           have BK250 := n4_
           have GW250 := n5_
           have GE250 := n6_
           have NB243_250 := n7_
           have NB250_243 := n8_
           have NB244_250 := n9_
           have NB250_244 := n10_
           have NB245_250 := n11_
           have NB250_245 := n12_
           clear n0_ n1_ n2_ n3_ n4_ n5_ n6_ n7_ n8_ n9_ n10_ n11_ n12_
           clear hb hbox hg
           refine hK.out _ _ ⟨(blk_cell BK243.out 0).trans rfl, (blk_cell BK243.out 1).trans rfl, (blk_cell BK244.out 0).trans rfl, (blk_cell BK244.out 1).trans rfl⟩ (fun hHeld => ?_)
           clear hK K
           refine norm_ (a' := ?_) ?_ ?_
           rotate_left
           ·show Act.put _ (some 5) _ = _
            simp only [Act.put, List.setIfInBounds_toArray, List.set_cons_zero, List.set_cons_succ, i64_w, i32_w]
            rfl
           exact norm_ (by first | (simp only [putAll, Act.put, List.setIfInBounds_toArray, List.set_cons_zero, List.set_cons_succ]; done) | (simp only [putAll, Act.put, List.setIfInBounds_toArray, List.set_cons_zero, List.set_cons_succ]; rfl)) (hJ4_10 (gb250) _ ⟨hHeld, (bk_ BK243.out), (bk_ BK244.out), (bk_ BK245.out), (bk_ BK250.out), GW250.out, GE250.out, NB243_250.out, NB250_243.out, NB244_250.out, NB250_244.out, NB245_250.out, NB250_245.out, (hb_ HB.out)⟩)
          ·skip
           refine box_step ?hg (N := 6) ?hd (cs := #[.int .i64 0, .int .i64 0]) (t := 25) ?hr ?_; (case hd => rfl); (case hg => rfl); (case hr => first | (go_simp; done) | (go_simp; rfl))
           intro gb251 hg w11 hbox hb
           have n0_ := Aside0.mk (bkb_ BK243.out hb)
           have n1_ := Aside0.mk (bkb_ BK244.out hb)
           have n2_ := Aside0.mk (bkb_ BK245.out hb)
           have n3_ := Aside0.mk (below_step (hb_ HB.out) hb)
           have n4_ := Aside0.mk (hbox)
           have n5_ := Aside0.mk ((by rw [hg]; exact (below_size (hb_ HB.out)) : w.heap.size ≤ gb251))
           have n6_ := Aside0.mk ((by rw [hg]; exact (below_size (hb_ HB.out)) : w.heap.size ≤ gb251))
           have n7_ := Aside0.mk ((by rw [hg]; exact Nat.ne_of_lt (bkl_ BK243.out) : gb243 ≠ gb251))
           have n8_ := Aside0.mk ((by rw [hg]; exact Nat.ne_of_gt (bkl_ BK243.out) : gb251 ≠ gb243))
           have n9_ := Aside0.mk ((by rw [hg]; exact Nat.ne_of_lt (bkl_ BK244.out) : gb244 ≠ gb251))
           have n10_ := Aside0.mk ((by rw [hg]; exact Nat.ne_of_gt (bkl_ BK244.out) : gb251 ≠ gb244))
           have n11_ := Aside0.mk ((by rw [hg]; exact Nat.ne_of_lt (bkl_ BK245.out) : gb245 ≠ gb251))
           have n12_ := Aside0.mk ((by rw [hg]; exact Nat.ne_of_gt (bkl_ BK245.out) : gb251 ≠ gb245))
           clear BK243
           clear BK244
           clear BK245
           clear HB
           have BK243 := n0_
           have BK244 := n1_
           have BK245 := n2_
           have HB := n3_
           have BK251 := n4_
           have GW251 := n5_
           have GE251 := n6_
           have NB243_251 := n7_
           have NB251_243 := n8_
           have NB244_251 := n9_
           have NB251_244 := n10_
           have NB245_251 := n11_
           have NB251_245 := n12_
           clear n0_ n1_ n2_ n3_ n4_ n5_ n6_ n7_ n8_ n9_ n10_ n11_ n12_
           clear hb hbox hg
           refine hK.out _ _ ⟨(blk_cell BK243.out 0).trans rfl, (blk_cell BK243.out 1).trans rfl, (blk_cell BK244.out 0).trans rfl, (blk_cell BK244.out 1).trans rfl⟩ (fun hHeld => ?_)
           clear hK K
           refine norm_ (a' := ?_) ?_ ?_
           rotate_left
           ·show Act.put _ (some 6) _ = _
            simp only [Act.put, List.setIfInBounds_toArray, List.set_cons_zero, List.set_cons_succ, i64_w, i32_w]
            rfl
           exact norm_ (by first | (simp only [putAll, Act.put, List.setIfInBounds_toArray, List.set_cons_zero, List.set_cons_succ]; done) | (simp only [putAll, Act.put, List.setIfInBounds_toArray, List.set_cons_zero, List.set_cons_succ]; rfl)) (hJ4_11 (gb251) _ ⟨hHeld, (bk_ BK243.out), (bk_ BK244.out), (bk_ BK245.out), (bk_ BK251.out), GW251.out, GE251.out, NB243_251.out, NB251_243.out, NB244_251.out, NB251_244.out, NB245_251.out, NB251_245.out, (hb_ HB.out)⟩)
        ·skip
         rintro ⟨gb250, gb251⟩ w11 ⟨hS_, h0_, h1_, h2_, h3_, h4_, h5_, h6_, h7_, h8_, h9_, h10_, h11_, h12_, h13_, h14_, h15_, h16_, h17_, h18_, h19_, h20_, h21_, h22_, h23_⟩
         have n0_ : Aside0 (w11.heap[gb243]? = some (.cells #[.int .i64 a0_0, .int .i64 a0_1] 25 (0, 0))) := ⟨h0_⟩
         have n1_ : Aside0 (w11.heap[gb244]? = some (.cells #[.int .i64 a1_0, .int .i64 a1_1] 25 (0, 0))) := ⟨h1_⟩
         have n2_ : Aside0 (w11.heap[gb245]? = some (.cells #[.int .i64 0, .int .i64 0] 25 (0, 0))) := ⟨h2_⟩
         have n3_ : Aside0 (w11.heap[gb250]? = some (.cells #[.int .i64 0, .int .i64 0] 25 (0, 0))) := ⟨h3_⟩
         have n4_ : Aside0 (w11.heap[gb251]? = some (.cells #[.int .i64 0, .int .i64 0] 25 (0, 0))) := ⟨h4_⟩
         have n5_ : Aside0 (w.heap.size ≤ gb250) := ⟨h5_⟩
         have n6_ : Aside0 (w.heap.size ≤ gb250) := ⟨h6_⟩
         have n7_ : Aside0 (gb243 ≠ gb250) := ⟨h7_⟩
         have n8_ : Aside0 (gb250 ≠ gb243) := ⟨h8_⟩
         have n9_ : Aside0 (gb244 ≠ gb250) := ⟨h9_⟩
         have n10_ : Aside0 (gb250 ≠ gb244) := ⟨h10_⟩
         have n11_ : Aside0 (gb245 ≠ gb250) := ⟨h11_⟩
         have n12_ : Aside0 (gb250 ≠ gb245) := ⟨h12_⟩
         have n13_ : Aside0 (gb251 ≠ gb250) := ⟨h13_⟩
         have n14_ : Aside0 (gb250 ≠ gb251) := ⟨h14_⟩
         have n15_ : Aside0 (w.heap.size ≤ gb251) := ⟨h15_⟩
         have n16_ : Aside0 (w.heap.size ≤ gb251) := ⟨h16_⟩
         have n17_ : Aside0 (gb243 ≠ gb251) := ⟨h17_⟩
         have n18_ : Aside0 (gb251 ≠ gb243) := ⟨h18_⟩
         have n19_ : Aside0 (gb244 ≠ gb251) := ⟨h19_⟩
         have n20_ : Aside0 (gb251 ≠ gb244) := ⟨h20_⟩
         have n21_ : Aside0 (gb245 ≠ gb251) := ⟨h21_⟩
         have n22_ : Aside0 (gb251 ≠ gb245) := ⟨h22_⟩
         have n23_ : Aside0 (Below w.heap.size w w11) := ⟨h23_⟩
         clear BK243
         clear BK244
         clear BK245
         clear HB
         clear h0_ h1_ h2_ h3_ h4_ h5_ h6_ h7_ h8_ h9_ h10_ h11_ h12_ h13_ h14_ h15_ h16_ h17_ h18_ h19_ h20_ h21_ h22_ h23_
         have BK243 := n0_
         have BK244 := n1_
         have BK245 := n2_
         have BK250 := n3_
         have BK251 := n4_
         have GW250 := n5_
         have GE250 := n6_
         have NB243_250 := n7_
         have NB250_243 := n8_
         have NB244_250 := n9_
         have NB250_244 := n10_
         have NB245_250 := n11_
         have NB250_245 := n12_
         have NB251_250 := n13_
         have NB250_251 := n14_
         have GW251 := n15_
         have GE251 := n16_
         have NB243_251 := n17_
         have NB251_243 := n18_
         have NB244_251 := n19_
         have NB251_244 := n20_
         have NB245_251 := n21_
         have NB251_245 := n22_
         have HB := n23_
         clear n0_ n1_ n2_ n3_ n4_ n5_ n6_ n7_ n8_ n9_ n10_ n11_ n12_ n13_ n14_ n15_ n16_ n17_ n18_ n19_ n20_ n21_ n22_ n23_
         have hHeld : w11.cell? ⟨gb243, 0, none⟩ = some (.int .i64 a0_0) ∧ w11.cell? ⟨gb243, 1, none⟩ = some (.int .i64 a0_1) ∧ w11.cell? ⟨gb244, 0, none⟩ = some (.int .i64 a1_0) ∧ w11.cell? ⟨gb244, 1, none⟩ = some (.int .i64 a1_1) := hS_
         refine norm_ (a' := ?_) ?_ ?_
         rotate_left
         ·simp only [putAll, Act.put, List.setIfInBounds_toArray, List.set_cons_zero, List.set_cons_succ]
          rfl
         refine one_ (i := 4) (N := some 11) #[true, true, true, true, true, true, true, true, true, false, true, true, false, false] rfl rfl (one_of HT_.out (by kernel_rfl)) (by decide) (fun K hK => ?_)
         refine goes_ Try.func60 (by kernel_rfl) rfl #[.int .i64 a0_0, .int .i64 a1_1] (by rfl) rfl rfl al_ ?_
         with_reducible refine (comfitref04_frac.calls k a0_0 a1_1 t246 t247 _ A3.out).mono ?_
         rintro e w12 ⟨rfl, hb⟩
         refine ⟨_, rfl, ?_⟩
         have n0_ := Aside0.mk (bkb_ BK243.out hb)
         have n1_ := Aside0.mk (bkb_ BK244.out hb)
         have n2_ := Aside0.mk (bkb_ BK245.out hb)
         have n3_ := Aside0.mk (bkb_ BK250.out hb)
         have n4_ := Aside0.mk (bkb_ BK251.out hb)
         have n5_ := Aside0.mk (below_step (hb_ HB.out) hb)
         clear BK243
         clear BK244
         clear BK245
         clear BK250
         clear BK251
         clear HB
         have BK243 := n0_
         have BK244 := n1_
         have BK245 := n2_
         have BK250 := n3_
         have BK251 := n4_
         have HB := n5_
         clear n0_ n1_ n2_ n3_ n4_ n5_
         (try clear hb)
         (try clear hb2)
         (try clear hk)
         (try clear hi)
         refine hK.out _ _ ⟨(blk_cell BK243.out 0).trans rfl, (blk_cell BK243.out 1).trans rfl, (blk_cell BK244.out 0).trans rfl, (blk_cell BK244.out 1).trans rfl⟩ (fun hHeld => ?_)
         clear hK K
         refine norm_ (a' := ?_) ?_ ?_
         rotate_left
         ·show Act.put _ (some 11) _ = _
          simp only [Act.put, List.setIfInBounds_toArray, List.set_cons_zero, List.set_cons_succ, i64_w, i32_w]
          rfl
         exact norm_ (by first | (simp only [putAll, Act.put, List.setIfInBounds_toArray, List.set_cons_zero, List.set_cons_succ]; done) | (simp only [putAll, Act.put, List.setIfInBounds_toArray, List.set_cons_zero, List.set_cons_succ]; rfl)) (hJ4_10_11 (gb250, gb251) _ ⟨hHeld, (bk_ BK243.out), (bk_ BK244.out), (bk_ BK245.out), (bk_ BK250.out), (bk_ BK251.out), GW250.out, GE250.out, NB243_250.out, NB250_243.out, NB244_250.out, NB250_244.out, NB245_250.out, NB250_245.out, NB251_250.out, NB250_251.out, GW251.out, GE251.out, NB243_251.out, NB251_243.out, NB244_251.out, NB251_244.out, NB245_251.out, NB251_245.out, (hb_ HB.out)⟩)
       ·skip
        rintro gb251 w11 ⟨hS_, h0_, h1_, h2_, h3_, h4_, h5_, h6_, h7_, h8_, h9_, h10_, h11_, h12_⟩
        have n0_ : Aside0 (w11.heap[gb243]? = some (.cells #[.int .i64 a0_0, .int .i64 a0_1] 25 (0, 0))) := ⟨h0_⟩
        have n1_ : Aside0 (w11.heap[gb244]? = some (.cells #[.int .i64 a1_0, .int .i64 a1_1] 25 (0, 0))) := ⟨h1_⟩
        have n2_ : Aside0 (w11.heap[gb245]? = some (.cells #[.int .i64 0, .int .i64 0] 25 (0, 0))) := ⟨h2_⟩
        have n3_ : Aside0 (w11.heap[gb251]? = some (.cells #[.int .i64 0, .int .i64 0] 25 (0, 0))) := ⟨h3_⟩
        have n4_ : Aside0 (w.heap.size ≤ gb251) := ⟨h4_⟩
        have n5_ : Aside0 (w.heap.size ≤ gb251) := ⟨h5_⟩
        have n6_ : Aside0 (gb243 ≠ gb251) := ⟨h6_⟩
        have n7_ : Aside0 (gb251 ≠ gb243) := ⟨h7_⟩
        have n8_ : Aside0 (gb244 ≠ gb251) := ⟨h8_⟩
        have n9_ : Aside0 (gb251 ≠ gb244) := ⟨h9_⟩
        have n10_ : Aside0 (gb245 ≠ gb251) := ⟨h10_⟩
        have n11_ : Aside0 (gb251 ≠ gb245) := ⟨h11_⟩
        have n12_ : Aside0 (Below w.heap.size w w11) := ⟨h12_⟩
        clear BK243
        clear BK244
        clear BK245
        clear HB
        clear h0_ h1_ h2_ h3_ h4_ h5_ h6_ h7_ h8_ h9_ h10_ h11_ h12_
        have BK243 := n0_
        have BK244 := n1_
        have BK245 := n2_
        have BK251 := n3_
        have GW251 := n4_
        have GE251 := n5_
        have NB243_251 := n6_
        have NB251_243 := n7_
        have NB244_251 := n8_
        have NB251_244 := n9_
        have NB245_251 := n10_
        have NB251_245 := n11_
        have HB := n12_
        clear n0_ n1_ n2_ n3_ n4_ n5_ n6_ n7_ n8_ n9_ n10_ n11_ n12_
        have hHeld : w11.cell? ⟨gb243, 0, none⟩ = some (.int .i64 a0_0) ∧ w11.cell? ⟨gb243, 1, none⟩ = some (.int .i64 a0_1) ∧ w11.cell? ⟨gb244, 0, none⟩ = some (.int .i64 a1_0) ∧ w11.cell? ⟨gb244, 1, none⟩ = some (.int .i64 a1_1) := hS_
        refine norm_ (a' := ?_) ?_ ?_
        rotate_left
        ·simp only [putAll, Act.put, List.setIfInBounds_toArray, List.set_cons_zero, List.set_cons_succ]
         rfl
        refine two_ (i := 9) (j := 10) (Ni := some 16) (Nj := some 5) #[true, true, true, true, true, true, true, true, true, true, false, true, false, false] #[true, true, true, true, true, true, true, true, true, false, true, true, false, false] rfl rfl rfl rfl (two_of HT_.out (by kernel_rfl)) (by decide) (by decide) (fun K hK => ?_) (fun K hK => ?_)
        ·skip
         refine goes_ Try.func60 (by kernel_rfl) rfl #[.int .i64 a1_0, .int .i64 a0_1] (by rfl) rfl rfl al_ ?_
         with_reducible refine (comfitref04_frac.calls k a1_0 a0_1 t248 t249 _ A4.out).mono ?_
         rintro e w12 ⟨rfl, hb⟩
         refine ⟨_, rfl, ?_⟩
         have n0_ := Aside0.mk (bkb_ BK243.out hb)
         have n1_ := Aside0.mk (bkb_ BK244.out hb)
         have n2_ := Aside0.mk (bkb_ BK245.out hb)
         have n3_ := Aside0.mk (bkb_ BK251.out hb)
         have n4_ := Aside0.mk (below_step (hb_ HB.out) hb)
         clear BK243
         clear BK244
         clear BK245
         clear BK251
         clear HB
         have BK243 := n0_
         have BK244 := n1_
         have BK245 := n2_
         have BK251 := n3_
         have HB := n4_
         clear n0_ n1_ n2_ n3_ n4_
         (try clear hb)
         (try clear hb2)
         (try clear hk)
         (try clear hi)
         refine hK.out _ _ ⟨(blk_cell BK243.out 0).trans rfl, (blk_cell BK243.out 1).trans rfl, (blk_cell BK244.out 0).trans rfl, (blk_cell BK244.out 1).trans rfl⟩ (fun hHeld => ?_)
         clear hK K
         refine norm_ (a' := ?_) ?_ ?_
         rotate_left
         ·show Act.put _ (some 16) _ = _
          simp only [Act.put, List.setIfInBounds_toArray, List.set_cons_zero, List.set_cons_succ, i64_w, i32_w]
          rfl
         exact norm_ (by first | (simp only [putAll, Act.put, List.setIfInBounds_toArray, List.set_cons_zero, List.set_cons_succ]; done) | (simp only [putAll, Act.put, List.setIfInBounds_toArray, List.set_cons_zero, List.set_cons_succ]; rfl)) (hJ4_9_11 (gb251) _ ⟨hHeld, (bk_ BK243.out), (bk_ BK244.out), (bk_ BK245.out), (bk_ BK251.out), GW251.out, GE251.out, NB243_251.out, NB251_243.out, NB244_251.out, NB251_244.out, NB245_251.out, NB251_245.out, (hb_ HB.out)⟩)
        ·skip
         refine box_step ?hg (N := 5) ?hd (cs := #[.int .i64 0, .int .i64 0]) (t := 25) ?hr ?_; (case hd => rfl); (case hg => rfl); (case hr => first | (go_simp; done) | (go_simp; rfl))
         intro gb250 hg w12 hbox hb
         have n0_ := Aside0.mk (bkb_ BK243.out hb)
         have n1_ := Aside0.mk (bkb_ BK244.out hb)
         have n2_ := Aside0.mk (bkb_ BK245.out hb)
         have n3_ := Aside0.mk (bkb_ BK251.out hb)
         have n4_ := Aside0.mk (below_step (hb_ HB.out) hb)
         have n5_ := Aside0.mk (hbox)
         have n6_ := Aside0.mk ((by rw [hg]; exact (below_size (hb_ HB.out)) : w.heap.size ≤ gb250))
         have n7_ := Aside0.mk ((by rw [hg]; exact (below_size (hb_ HB.out)) : w.heap.size ≤ gb250))
         have n8_ := Aside0.mk ((by rw [hg]; exact Nat.ne_of_lt (bkl_ BK243.out) : gb243 ≠ gb250))
         have n9_ := Aside0.mk ((by rw [hg]; exact Nat.ne_of_gt (bkl_ BK243.out) : gb250 ≠ gb243))
         have n10_ := Aside0.mk ((by rw [hg]; exact Nat.ne_of_lt (bkl_ BK244.out) : gb244 ≠ gb250))
         have n11_ := Aside0.mk ((by rw [hg]; exact Nat.ne_of_gt (bkl_ BK244.out) : gb250 ≠ gb244))
         have n12_ := Aside0.mk ((by rw [hg]; exact Nat.ne_of_lt (bkl_ BK245.out) : gb245 ≠ gb250))
         have n13_ := Aside0.mk ((by rw [hg]; exact Nat.ne_of_gt (bkl_ BK245.out) : gb250 ≠ gb245))
         have n14_ := Aside0.mk ((by rw [hg]; exact Nat.ne_of_lt (bkl_ BK251.out) : gb251 ≠ gb250))
         have n15_ := Aside0.mk ((by rw [hg]; exact Nat.ne_of_gt (bkl_ BK251.out) : gb250 ≠ gb251))
         clear BK243
         clear BK244
         clear BK245
         clear BK251
         clear HB
         have BK243 := n0_
         have BK244 := n1_
         have BK245 := n2_
         have BK251 := n3_
         have HB := n4_
         have BK250 := n5_
         have GW250 := n6_
         have GE250 := n7_
         have NB243_250 := n8_
         have NB250_243 := n9_
         have NB244_250 := n10_
         have NB250_244 := n11_
         have NB245_250 := n12_
         have NB250_245 := n13_
         have NB251_250 := n14_
         have NB250_251 := n15_
         clear n0_ n1_ n2_ n3_ n4_ n5_ n6_ n7_ n8_ n9_ n10_ n11_ n12_ n13_ n14_ n15_
         clear hb hbox hg
         refine hK.out _ _ ⟨(blk_cell BK243.out 0).trans rfl, (blk_cell BK243.out 1).trans rfl, (blk_cell BK244.out 0).trans rfl, (blk_cell BK244.out 1).trans rfl⟩ (fun hHeld => ?_)
         clear hK K
         refine norm_ (a' := ?_) ?_ ?_
         rotate_left
         ·show Act.put _ (some 5) _ = _
          simp only [Act.put, List.setIfInBounds_toArray, List.set_cons_zero, List.set_cons_succ, i64_w, i32_w]
          rfl
         exact norm_ (by first | (simp only [putAll, Act.put, List.setIfInBounds_toArray, List.set_cons_zero, List.set_cons_succ]; done) | (simp only [putAll, Act.put, List.setIfInBounds_toArray, List.set_cons_zero, List.set_cons_succ]; rfl)) (hJ4_10_11 (gb250, gb251) _ ⟨hHeld, (bk_ BK243.out), (bk_ BK244.out), (bk_ BK245.out), (bk_ BK250.out), (bk_ BK251.out), GW250.out, GE250.out, NB243_250.out, NB250_243.out, NB244_250.out, NB250_244.out, NB245_250.out, NB250_245.out, NB251_250.out, NB250_251.out, GW251.out, GE251.out, NB243_251.out, NB251_243.out, NB244_251.out, NB251_244.out, NB245_251.out, NB251_245.out, (hb_ HB.out)⟩)
      ·skip
       rintro gb250 w11 ⟨hS_, h0_, h1_, h2_, h3_, h4_, h5_, h6_, h7_, h8_, h9_, h10_, h11_, h12_⟩
       have n0_ : Aside0 (w11.heap[gb243]? = some (.cells #[.int .i64 a0_0, .int .i64 a0_1] 25 (0, 0))) := ⟨h0_⟩
       have n1_ : Aside0 (w11.heap[gb244]? = some (.cells #[.int .i64 a1_0, .int .i64 a1_1] 25 (0, 0))) := ⟨h1_⟩
       have n2_ : Aside0 (w11.heap[gb245]? = some (.cells #[.int .i64 0, .int .i64 0] 25 (0, 0))) := ⟨h2_⟩
       have n3_ : Aside0 (w11.heap[gb250]? = some (.cells #[.int .i64 0, .int .i64 0] 25 (0, 0))) := ⟨h3_⟩
       have n4_ : Aside0 (w.heap.size ≤ gb250) := ⟨h4_⟩
       have n5_ : Aside0 (w.heap.size ≤ gb250) := ⟨h5_⟩
       have n6_ : Aside0 (gb243 ≠ gb250) := ⟨h6_⟩
       have n7_ : Aside0 (gb250 ≠ gb243) := ⟨h7_⟩
       have n8_ : Aside0 (gb244 ≠ gb250) := ⟨h8_⟩
       have n9_ : Aside0 (gb250 ≠ gb244) := ⟨h9_⟩
       have n10_ : Aside0 (gb245 ≠ gb250) := ⟨h10_⟩
       have n11_ : Aside0 (gb250 ≠ gb245) := ⟨h11_⟩
       have n12_ : Aside0 (Below w.heap.size w w11) := ⟨h12_⟩
       clear BK243
       clear BK244
       clear BK245
       clear HB
       clear h0_ h1_ h2_ h3_ h4_ h5_ h6_ h7_ h8_ h9_ h10_ h11_ h12_
       have BK243 := n0_
       have BK244 := n1_
       have BK245 := n2_
       have BK250 := n3_
       have GW250 := n4_
       have GE250 := n5_
       have NB243_250 := n6_
       have NB250_243 := n7_
       have NB244_250 := n8_
       have NB250_244 := n9_
       have NB245_250 := n10_
       have NB250_245 := n11_
       have HB := n12_
       clear n0_ n1_ n2_ n3_ n4_ n5_ n6_ n7_ n8_ n9_ n10_ n11_ n12_
       have hHeld : w11.cell? ⟨gb243, 0, none⟩ = some (.int .i64 a0_0) ∧ w11.cell? ⟨gb243, 1, none⟩ = some (.int .i64 a0_1) ∧ w11.cell? ⟨gb244, 0, none⟩ = some (.int .i64 a1_0) ∧ w11.cell? ⟨gb244, 1, none⟩ = some (.int .i64 a1_1) := hS_
       refine norm_ (a' := ?_) ?_ ?_
       rotate_left
       ·simp only [putAll, Act.put, List.setIfInBounds_toArray, List.set_cons_zero, List.set_cons_succ]
        rfl
       refine two_ (i := 9) (j := 11) (Ni := some 16) (Nj := some 6) #[true, true, true, true, true, true, true, true, true, true, true, false, false, false] #[true, true, true, true, true, true, true, true, true, false, true, true, false, false] rfl rfl rfl rfl (two_of HT_.out (by kernel_rfl)) (by decide) (by decide) (fun K hK => ?_) (fun K hK => ?_)
       ·skip
        refine goes_ Try.func60 (by kernel_rfl) rfl #[.int .i64 a1_0, .int .i64 a0_1] (by rfl) rfl rfl al_ ?_
        with_reducible refine (comfitref04_frac.calls k a1_0 a0_1 t248 t249 _ A4.out).mono ?_
        rintro e w12 ⟨rfl, hb⟩
        refine ⟨_, rfl, ?_⟩
        have n0_ := Aside0.mk (bkb_ BK243.out hb)
        have n1_ := Aside0.mk (bkb_ BK244.out hb)
        have n2_ := Aside0.mk (bkb_ BK245.out hb)
        have n3_ := Aside0.mk (bkb_ BK250.out hb)
        have n4_ := Aside0.mk (below_step (hb_ HB.out) hb)
        clear BK243
        clear BK244
        clear BK245
        clear BK250
        clear HB
        have BK243 := n0_
        have BK244 := n1_
        have BK245 := n2_
        have BK250 := n3_
        have HB := n4_
        clear n0_ n1_ n2_ n3_ n4_
        (try clear hb)
        (try clear hb2)
        (try clear hk)
        (try clear hi)
        refine hK.out _ _ ⟨(blk_cell BK243.out 0).trans rfl, (blk_cell BK243.out 1).trans rfl, (blk_cell BK244.out 0).trans rfl, (blk_cell BK244.out 1).trans rfl⟩ (fun hHeld => ?_)
        clear hK K
        refine norm_ (a' := ?_) ?_ ?_
        rotate_left
        ·show Act.put _ (some 16) _ = _
         simp only [Act.put, List.setIfInBounds_toArray, List.set_cons_zero, List.set_cons_succ, i64_w, i32_w]
         rfl
        exact norm_ (by first | (simp only [putAll, Act.put, List.setIfInBounds_toArray, List.set_cons_zero, List.set_cons_succ]; done) | (simp only [putAll, Act.put, List.setIfInBounds_toArray, List.set_cons_zero, List.set_cons_succ]; rfl)) (hJ4_9_10 (gb250) _ ⟨hHeld, (bk_ BK243.out), (bk_ BK244.out), (bk_ BK245.out), (bk_ BK250.out), GW250.out, GE250.out, NB243_250.out, NB250_243.out, NB244_250.out, NB250_244.out, NB245_250.out, NB250_245.out, (hb_ HB.out)⟩)
       ·skip
        refine box_step ?hg (N := 6) ?hd (cs := #[.int .i64 0, .int .i64 0]) (t := 25) ?hr ?_; (case hd => rfl); (case hg => rfl); (case hr => first | (go_simp; done) | (go_simp; rfl))
        intro gb251 hg w12 hbox hb
        have n0_ := Aside0.mk (bkb_ BK243.out hb)
        have n1_ := Aside0.mk (bkb_ BK244.out hb)
        have n2_ := Aside0.mk (bkb_ BK245.out hb)
        have n3_ := Aside0.mk (bkb_ BK250.out hb)
        have n4_ := Aside0.mk (below_step (hb_ HB.out) hb)
        have n5_ := Aside0.mk (hbox)
        have n6_ := Aside0.mk ((by rw [hg]; exact (below_size (hb_ HB.out)) : w.heap.size ≤ gb251))
        have n7_ := Aside0.mk ((by rw [hg]; exact (below_size (hb_ HB.out)) : w.heap.size ≤ gb251))
        have n8_ := Aside0.mk ((by rw [hg]; exact Nat.ne_of_lt (bkl_ BK243.out) : gb243 ≠ gb251))
        have n9_ := Aside0.mk ((by rw [hg]; exact Nat.ne_of_gt (bkl_ BK243.out) : gb251 ≠ gb243))
        have n10_ := Aside0.mk ((by rw [hg]; exact Nat.ne_of_lt (bkl_ BK244.out) : gb244 ≠ gb251))
        have n11_ := Aside0.mk ((by rw [hg]; exact Nat.ne_of_gt (bkl_ BK244.out) : gb251 ≠ gb244))
        have n12_ := Aside0.mk ((by rw [hg]; exact Nat.ne_of_lt (bkl_ BK245.out) : gb245 ≠ gb251))
        have n13_ := Aside0.mk ((by rw [hg]; exact Nat.ne_of_gt (bkl_ BK245.out) : gb251 ≠ gb245))
        have n14_ := Aside0.mk ((by rw [hg]; exact Nat.ne_of_lt (bkl_ BK250.out) : gb250 ≠ gb251))
        have n15_ := Aside0.mk ((by rw [hg]; exact Nat.ne_of_gt (bkl_ BK250.out) : gb251 ≠ gb250))
        clear BK243
        clear BK244
        clear BK245
        clear BK250
        clear HB
        have BK243 := n0_
        have BK244 := n1_
        have BK245 := n2_
        have BK250 := n3_
        have HB := n4_
        have BK251 := n5_
        have GW251 := n6_
        have GE251 := n7_
        have NB243_251 := n8_
        have NB251_243 := n9_
        have NB244_251 := n10_
        have NB251_244 := n11_
        have NB245_251 := n12_
        have NB251_245 := n13_
        have NB250_251 := n14_
        have NB251_250 := n15_
        clear n0_ n1_ n2_ n3_ n4_ n5_ n6_ n7_ n8_ n9_ n10_ n11_ n12_ n13_ n14_ n15_
        clear hb hbox hg
        refine hK.out _ _ ⟨(blk_cell BK243.out 0).trans rfl, (blk_cell BK243.out 1).trans rfl, (blk_cell BK244.out 0).trans rfl, (blk_cell BK244.out 1).trans rfl⟩ (fun hHeld => ?_)
        clear hK K
        refine norm_ (a' := ?_) ?_ ?_
        rotate_left
        ·show Act.put _ (some 6) _ = _
         simp only [Act.put, List.setIfInBounds_toArray, List.set_cons_zero, List.set_cons_succ, i64_w, i32_w]
         rfl
        exact norm_ (by first | (simp only [putAll, Act.put, List.setIfInBounds_toArray, List.set_cons_zero, List.set_cons_succ]; done) | (simp only [putAll, Act.put, List.setIfInBounds_toArray, List.set_cons_zero, List.set_cons_succ]; rfl)) (hJ4_10_11 (gb250, gb251) _ ⟨hHeld, (bk_ BK243.out), (bk_ BK244.out), (bk_ BK245.out), (bk_ BK250.out), (bk_ BK251.out), GW250.out, GE250.out, NB243_250.out, NB250_243.out, NB244_250.out, NB250_244.out, NB245_250.out, NB250_245.out, NB251_250.out, NB250_251.out, GW251.out, GE251.out, NB243_251.out, NB251_243.out, NB244_251.out, NB251_244.out, NB245_251.out, NB251_245.out, (hb_ HB.out)⟩)
     ·skip
      rintro _ w11 ⟨hS_, h0_, h1_, h2_, h3_⟩
      have n0_ : Aside0 (w11.heap[gb243]? = some (.cells #[.int .i64 a0_0, .int .i64 a0_1] 25 (0, 0))) := ⟨h0_⟩
      have n1_ : Aside0 (w11.heap[gb244]? = some (.cells #[.int .i64 a1_0, .int .i64 a1_1] 25 (0, 0))) := ⟨h1_⟩
      have n2_ : Aside0 (w11.heap[gb245]? = some (.cells #[.int .i64 0, .int .i64 0] 25 (0, 0))) := ⟨h2_⟩
      have n3_ : Aside0 (Below w.heap.size w w11) := ⟨h3_⟩
      clear BK243
      clear BK244
      clear BK245
      clear HB
      clear h0_ h1_ h2_ h3_
      have BK243 := n0_
      have BK244 := n1_
      have BK245 := n2_
      have HB := n3_
      clear n0_ n1_ n2_ n3_
      have hHeld : w11.cell? ⟨gb243, 0, none⟩ = some (.int .i64 a0_0) ∧ w11.cell? ⟨gb243, 1, none⟩ = some (.int .i64 a0_1) ∧ w11.cell? ⟨gb244, 0, none⟩ = some (.int .i64 a1_0) ∧ w11.cell? ⟨gb244, 1, none⟩ = some (.int .i64 a1_1) := hS_
      refine norm_ (a' := ?_) ?_ ?_
      rotate_left
      ·simp only [putAll, Act.put, List.setIfInBounds_toArray, List.set_cons_zero, List.set_cons_succ]
       rfl
      refine two_ (i := 10) (j := 11) (Ni := some 5) (Nj := some 6) #[true, true, true, true, true, true, true, true, true, true, true, false, false, false] #[true, true, true, true, true, true, true, true, true, true, false, true, false, false] rfl rfl rfl rfl (two_of HT_.out (by kernel_rfl)) (by decide) (by decide) (fun K hK => ?_) (fun K hK => ?_)
      ·skip
       refine box_step ?hg (N := 5) ?hd (cs := #[.int .i64 0, .int .i64 0]) (t := 25) ?hr ?_; (case hd => rfl); (case hg => rfl); (case hr => first | (go_simp; done) | (go_simp; rfl))
       intro gb250 hg w12 hbox hb
       have n0_ := Aside0.mk (bkb_ BK243.out hb)
       have n1_ := Aside0.mk (bkb_ BK244.out hb)
       have n2_ := Aside0.mk (bkb_ BK245.out hb)
       have n3_ := Aside0.mk (below_step (hb_ HB.out) hb)
       have n4_ := Aside0.mk (hbox)
       have n5_ := Aside0.mk ((by rw [hg]; exact (below_size (hb_ HB.out)) : w.heap.size ≤ gb250))
       have n6_ := Aside0.mk ((by rw [hg]; exact (below_size (hb_ HB.out)) : w.heap.size ≤ gb250))
       have n7_ := Aside0.mk ((by rw [hg]; exact Nat.ne_of_lt (bkl_ BK243.out) : gb243 ≠ gb250))
       have n8_ := Aside0.mk ((by rw [hg]; exact Nat.ne_of_gt (bkl_ BK243.out) : gb250 ≠ gb243))
       have n9_ := Aside0.mk ((by rw [hg]; exact Nat.ne_of_lt (bkl_ BK244.out) : gb244 ≠ gb250))
       have n10_ := Aside0.mk ((by rw [hg]; exact Nat.ne_of_gt (bkl_ BK244.out) : gb250 ≠ gb244))
       have n11_ := Aside0.mk ((by rw [hg]; exact Nat.ne_of_lt (bkl_ BK245.out) : gb245 ≠ gb250))
       have n12_ := Aside0.mk ((by rw [hg]; exact Nat.ne_of_gt (bkl_ BK245.out) : gb250 ≠ gb245))
       clear BK243
       clear BK244
       clear BK245
       clear HB
       have BK243 := n0_
       have BK244 := n1_
       have BK245 := n2_
       have HB := n3_
       have BK250 := n4_
       have GW250 := n5_
       have GE250 := n6_
       have NB243_250 := n7_
       have NB250_243 := n8_
       have NB244_250 := n9_
       have NB250_244 := n10_
       have NB245_250 := n11_
       have NB250_245 := n12_
       clear n0_ n1_ n2_ n3_ n4_ n5_ n6_ n7_ n8_ n9_ n10_ n11_ n12_
       clear hb hbox hg
       refine hK.out _ _ ⟨(blk_cell BK243.out 0).trans rfl, (blk_cell BK243.out 1).trans rfl, (blk_cell BK244.out 0).trans rfl, (blk_cell BK244.out 1).trans rfl⟩ (fun hHeld => ?_)
       clear hK K
       refine norm_ (a' := ?_) ?_ ?_
       rotate_left
       ·show Act.put _ (some 5) _ = _
        simp only [Act.put, List.setIfInBounds_toArray, List.set_cons_zero, List.set_cons_succ, i64_w, i32_w]
        rfl
       exact norm_ (by first | (simp only [putAll, Act.put, List.setIfInBounds_toArray, List.set_cons_zero, List.set_cons_succ]; done) | (simp only [putAll, Act.put, List.setIfInBounds_toArray, List.set_cons_zero, List.set_cons_succ]; rfl)) (hJ4_9_10 (gb250) _ ⟨hHeld, (bk_ BK243.out), (bk_ BK244.out), (bk_ BK245.out), (bk_ BK250.out), GW250.out, GE250.out, NB243_250.out, NB250_243.out, NB244_250.out, NB250_244.out, NB245_250.out, NB250_245.out, (hb_ HB.out)⟩)
      ·skip
       refine box_step ?hg (N := 6) ?hd (cs := #[.int .i64 0, .int .i64 0]) (t := 25) ?hr ?_; (case hd => rfl); (case hg => rfl); (case hr => first | (go_simp; done) | (go_simp; rfl))
       intro gb251 hg w12 hbox hb
       have n0_ := Aside0.mk (bkb_ BK243.out hb)
       have n1_ := Aside0.mk (bkb_ BK244.out hb)
       have n2_ := Aside0.mk (bkb_ BK245.out hb)
       have n3_ := Aside0.mk (below_step (hb_ HB.out) hb)
       have n4_ := Aside0.mk (hbox)
       have n5_ := Aside0.mk ((by rw [hg]; exact (below_size (hb_ HB.out)) : w.heap.size ≤ gb251))
       have n6_ := Aside0.mk ((by rw [hg]; exact (below_size (hb_ HB.out)) : w.heap.size ≤ gb251))
       have n7_ := Aside0.mk ((by rw [hg]; exact Nat.ne_of_lt (bkl_ BK243.out) : gb243 ≠ gb251))
       have n8_ := Aside0.mk ((by rw [hg]; exact Nat.ne_of_gt (bkl_ BK243.out) : gb251 ≠ gb243))
       have n9_ := Aside0.mk ((by rw [hg]; exact Nat.ne_of_lt (bkl_ BK244.out) : gb244 ≠ gb251))
       have n10_ := Aside0.mk ((by rw [hg]; exact Nat.ne_of_gt (bkl_ BK244.out) : gb251 ≠ gb244))
       have n11_ := Aside0.mk ((by rw [hg]; exact Nat.ne_of_lt (bkl_ BK245.out) : gb245 ≠ gb251))
       have n12_ := Aside0.mk ((by rw [hg]; exact Nat.ne_of_gt (bkl_ BK245.out) : gb251 ≠ gb245))
       clear BK243
       clear BK244
       clear BK245
       clear HB
       have BK243 := n0_
       have BK244 := n1_
       have BK245 := n2_
       have HB := n3_
       have BK251 := n4_
       have GW251 := n5_
       have GE251 := n6_
       have NB243_251 := n7_
       have NB251_243 := n8_
       have NB244_251 := n9_
       have NB251_244 := n10_
       have NB245_251 := n11_
       have NB251_245 := n12_
       clear n0_ n1_ n2_ n3_ n4_ n5_ n6_ n7_ n8_ n9_ n10_ n11_ n12_
       clear hb hbox hg
       refine hK.out _ _ ⟨(blk_cell BK243.out 0).trans rfl, (blk_cell BK243.out 1).trans rfl, (blk_cell BK244.out 0).trans rfl, (blk_cell BK244.out 1).trans rfl⟩ (fun hHeld => ?_)
       clear hK K
       refine norm_ (a' := ?_) ?_ ?_
       rotate_left
       ·show Act.put _ (some 6) _ = _
        simp only [Act.put, List.setIfInBounds_toArray, List.set_cons_zero, List.set_cons_succ, i64_w, i32_w]
        rfl
       exact norm_ (by first | (simp only [putAll, Act.put, List.setIfInBounds_toArray, List.set_cons_zero, List.set_cons_succ]; done) | (simp only [putAll, Act.put, List.setIfInBounds_toArray, List.set_cons_zero, List.set_cons_succ]; rfl)) (hJ4_9_11 (gb251) _ ⟨hHeld, (bk_ BK243.out), (bk_ BK244.out), (bk_ BK245.out), (bk_ BK251.out), GW251.out, GE251.out, NB243_251.out, NB251_243.out, NB244_251.out, NB251_244.out, NB245_251.out, NB251_245.out, (hb_ HB.out)⟩)
    ·skip
     rintro ⟨gb250, gb251⟩ w12 ⟨hS_, h0_, h1_, h2_, h3_, h4_, h5_, h6_, h7_, h8_, h9_, h10_, h11_, h12_, h13_, h14_, h15_, h16_, h17_, h18_, h19_, h20_, h21_, h22_, h23_⟩
     have n0_ : Aside0 (w12.heap[gb243]? = some (.cells #[.int .i64 a0_0, .int .i64 a0_1] 25 (0, 0))) := ⟨h0_⟩
     have n1_ : Aside0 (w12.heap[gb244]? = some (.cells #[.int .i64 a1_0, .int .i64 a1_1] 25 (0, 0))) := ⟨h1_⟩
     have n2_ : Aside0 (w12.heap[gb245]? = some (.cells #[.int .i64 0, .int .i64 0] 25 (0, 0))) := ⟨h2_⟩
     have n3_ : Aside0 (w12.heap[gb250]? = some (.cells #[.int .i64 0, .int .i64 0] 25 (0, 0))) := ⟨h3_⟩
     have n4_ : Aside0 (w12.heap[gb251]? = some (.cells #[.int .i64 0, .int .i64 0] 25 (0, 0))) := ⟨h4_⟩
     have n5_ : Aside0 (w.heap.size ≤ gb250) := ⟨h5_⟩
     have n6_ : Aside0 (w.heap.size ≤ gb250) := ⟨h6_⟩
     have n7_ : Aside0 (gb243 ≠ gb250) := ⟨h7_⟩
     have n8_ : Aside0 (gb250 ≠ gb243) := ⟨h8_⟩
     have n9_ : Aside0 (gb244 ≠ gb250) := ⟨h9_⟩
     have n10_ : Aside0 (gb250 ≠ gb244) := ⟨h10_⟩
     have n11_ : Aside0 (gb245 ≠ gb250) := ⟨h11_⟩
     have n12_ : Aside0 (gb250 ≠ gb245) := ⟨h12_⟩
     have n13_ : Aside0 (gb251 ≠ gb250) := ⟨h13_⟩
     have n14_ : Aside0 (gb250 ≠ gb251) := ⟨h14_⟩
     have n15_ : Aside0 (w.heap.size ≤ gb251) := ⟨h15_⟩
     have n16_ : Aside0 (w.heap.size ≤ gb251) := ⟨h16_⟩
     have n17_ : Aside0 (gb243 ≠ gb251) := ⟨h17_⟩
     have n18_ : Aside0 (gb251 ≠ gb243) := ⟨h18_⟩
     have n19_ : Aside0 (gb244 ≠ gb251) := ⟨h19_⟩
     have n20_ : Aside0 (gb251 ≠ gb244) := ⟨h20_⟩
     have n21_ : Aside0 (gb245 ≠ gb251) := ⟨h21_⟩
     have n22_ : Aside0 (gb251 ≠ gb245) := ⟨h22_⟩
     have n23_ : Aside0 (Below w.heap.size w w12) := ⟨h23_⟩
     clear BK243
     clear BK244
     clear BK245
     clear HB
     clear h0_ h1_ h2_ h3_ h4_ h5_ h6_ h7_ h8_ h9_ h10_ h11_ h12_ h13_ h14_ h15_ h16_ h17_ h18_ h19_ h20_ h21_ h22_ h23_
     have BK243 := n0_
     have BK244 := n1_
     have BK245 := n2_
     have BK250 := n3_
     have BK251 := n4_
     have GW250 := n5_
     have GE250 := n6_
     have NB243_250 := n7_
     have NB250_243 := n8_
     have NB244_250 := n9_
     have NB250_244 := n10_
     have NB245_250 := n11_
     have NB250_245 := n12_
     have NB251_250 := n13_
     have NB250_251 := n14_
     have GW251 := n15_
     have GE251 := n16_
     have NB243_251 := n17_
     have NB251_243 := n18_
     have NB244_251 := n19_
     have NB251_244 := n20_
     have NB245_251 := n21_
     have NB251_245 := n22_
     have HB := n23_
     clear n0_ n1_ n2_ n3_ n4_ n5_ n6_ n7_ n8_ n9_ n10_ n11_ n12_ n13_ n14_ n15_ n16_ n17_ n18_ n19_ n20_ n21_ n22_ n23_
     have hHeld : w12.cell? ⟨gb243, 0, none⟩ = some (.int .i64 a0_0) ∧ w12.cell? ⟨gb243, 1, none⟩ = some (.int .i64 a0_1) ∧ w12.cell? ⟨gb244, 0, none⟩ = some (.int .i64 a1_0) ∧ w12.cell? ⟨gb244, 1, none⟩ = some (.int .i64 a1_1) := hS_
     refine norm_ (a' := ?_) ?_ ?_
     rotate_left
     ·simp only [putAll, Act.put, List.setIfInBounds_toArray, List.set_cons_zero, List.set_cons_succ]
      rfl
     refine one_ (i := 9) (N := some 16) #[true, true, true, true, true, true, true, true, true, true, true, true, false, false] rfl rfl (one_of HT_.out (by kernel_rfl)) (by decide) (fun K hK => ?_)
     refine goes_ Try.func60 (by kernel_rfl) rfl #[.int .i64 a1_0, .int .i64 a0_1] (by rfl) rfl rfl al_ ?_
     with_reducible refine (comfitref04_frac.calls k a1_0 a0_1 t248 t249 _ A4.out).mono ?_
     rintro e w13 ⟨rfl, hb⟩
     refine ⟨_, rfl, ?_⟩
     have n0_ := Aside0.mk (bkb_ BK243.out hb)
     have n1_ := Aside0.mk (bkb_ BK244.out hb)
     have n2_ := Aside0.mk (bkb_ BK245.out hb)
     have n3_ := Aside0.mk (bkb_ BK250.out hb)
     have n4_ := Aside0.mk (bkb_ BK251.out hb)
     have n5_ := Aside0.mk (below_step (hb_ HB.out) hb)
     clear BK243
     clear BK244
     clear BK245
     clear BK250
     clear BK251
     clear HB
     have BK243 := n0_
     have BK244 := n1_
     have BK245 := n2_
     have BK250 := n3_
     have BK251 := n4_
     have HB := n5_
     clear n0_ n1_ n2_ n3_ n4_ n5_
     (try clear hb)
     (try clear hb2)
     (try clear hk)
     (try clear hi)
     refine hK.out _ _ ⟨(blk_cell BK243.out 0).trans rfl, (blk_cell BK243.out 1).trans rfl, (blk_cell BK244.out 0).trans rfl, (blk_cell BK244.out 1).trans rfl⟩ (fun hHeld => ?_)
     clear hK K
     refine norm_ (a' := ?_) ?_ ?_
     rotate_left
     ·show Act.put _ (some 16) _ = _
      simp only [Act.put, List.setIfInBounds_toArray, List.set_cons_zero, List.set_cons_succ, i64_w, i32_w]
      rfl
     exact norm_ (by first | (simp only [putAll, Act.put, List.setIfInBounds_toArray, List.set_cons_zero, List.set_cons_succ]; done) | (simp only [putAll, Act.put, List.setIfInBounds_toArray, List.set_cons_zero, List.set_cons_succ]; rfl)) (hJ4_9_10_11 (gb250, gb251) _ ⟨hHeld, (bk_ BK243.out), (bk_ BK244.out), (bk_ BK245.out), (bk_ BK250.out), (bk_ BK251.out), GW250.out, GE250.out, NB243_250.out, NB250_243.out, NB244_250.out, NB250_244.out, NB245_250.out, NB250_245.out, NB251_250.out, NB250_251.out, GW251.out, GE251.out, NB243_251.out, NB251_243.out, NB244_251.out, NB251_244.out, NB245_251.out, NB251_245.out, (hb_ HB.out)⟩)
   ·skip
    rintro gb251 w12 ⟨hS_, h0_, h1_, h2_, h3_, h4_, h5_, h6_, h7_, h8_, h9_, h10_, h11_, h12_⟩
    have n0_ : Aside0 (w12.heap[gb243]? = some (.cells #[.int .i64 a0_0, .int .i64 a0_1] 25 (0, 0))) := ⟨h0_⟩
    have n1_ : Aside0 (w12.heap[gb244]? = some (.cells #[.int .i64 a1_0, .int .i64 a1_1] 25 (0, 0))) := ⟨h1_⟩
    have n2_ : Aside0 (w12.heap[gb245]? = some (.cells #[.int .i64 0, .int .i64 0] 25 (0, 0))) := ⟨h2_⟩
    have n3_ : Aside0 (w12.heap[gb251]? = some (.cells #[.int .i64 0, .int .i64 0] 25 (0, 0))) := ⟨h3_⟩
    have n4_ : Aside0 (w.heap.size ≤ gb251) := ⟨h4_⟩
    have n5_ : Aside0 (w.heap.size ≤ gb251) := ⟨h5_⟩
    have n6_ : Aside0 (gb243 ≠ gb251) := ⟨h6_⟩
    have n7_ : Aside0 (gb251 ≠ gb243) := ⟨h7_⟩
    have n8_ : Aside0 (gb244 ≠ gb251) := ⟨h8_⟩
    have n9_ : Aside0 (gb251 ≠ gb244) := ⟨h9_⟩
    have n10_ : Aside0 (gb245 ≠ gb251) := ⟨h10_⟩
    have n11_ : Aside0 (gb251 ≠ gb245) := ⟨h11_⟩
    have n12_ : Aside0 (Below w.heap.size w w12) := ⟨h12_⟩
    clear BK243
    clear BK244
    clear BK245
    clear HB
    clear h0_ h1_ h2_ h3_ h4_ h5_ h6_ h7_ h8_ h9_ h10_ h11_ h12_
    have BK243 := n0_
    have BK244 := n1_
    have BK245 := n2_
    have BK251 := n3_
    have GW251 := n4_
    have GE251 := n5_
    have NB243_251 := n6_
    have NB251_243 := n7_
    have NB244_251 := n8_
    have NB251_244 := n9_
    have NB245_251 := n10_
    have NB251_245 := n11_
    have HB := n12_
    clear n0_ n1_ n2_ n3_ n4_ n5_ n6_ n7_ n8_ n9_ n10_ n11_ n12_
    have hHeld : w12.cell? ⟨gb243, 0, none⟩ = some (.int .i64 a0_0) ∧ w12.cell? ⟨gb243, 1, none⟩ = some (.int .i64 a0_1) ∧ w12.cell? ⟨gb244, 0, none⟩ = some (.int .i64 a1_0) ∧ w12.cell? ⟨gb244, 1, none⟩ = some (.int .i64 a1_1) := hS_
    refine norm_ (a' := ?_) ?_ ?_
    rotate_left
    ·simp only [putAll, Act.put, List.setIfInBounds_toArray, List.set_cons_zero, List.set_cons_succ]
     rfl
    refine one_ (i := 10) (N := some 5) #[true, true, true, true, true, true, true, true, true, true, true, true, false, false] rfl rfl (one_of HT_.out (by kernel_rfl)) (by decide) (fun K hK => ?_)
    refine box_step ?hg (N := 5) ?hd (cs := #[.int .i64 0, .int .i64 0]) (t := 25) ?hr ?_; (case hd => rfl); (case hg => rfl); (case hr => first | (go_simp; done) | (go_simp; rfl))
    intro gb250 hg w13 hbox hb
    have n0_ := Aside0.mk (bkb_ BK243.out hb)
    have n1_ := Aside0.mk (bkb_ BK244.out hb)
    have n2_ := Aside0.mk (bkb_ BK245.out hb)
    have n3_ := Aside0.mk (bkb_ BK251.out hb)
    have n4_ := Aside0.mk (below_step (hb_ HB.out) hb)
    have n5_ := Aside0.mk (hbox)
    have n6_ := Aside0.mk ((by rw [hg]; exact (below_size (hb_ HB.out)) : w.heap.size ≤ gb250))
    have n7_ := Aside0.mk ((by rw [hg]; exact (below_size (hb_ HB.out)) : w.heap.size ≤ gb250))
    have n8_ := Aside0.mk ((by rw [hg]; exact Nat.ne_of_lt (bkl_ BK243.out) : gb243 ≠ gb250))
    have n9_ := Aside0.mk ((by rw [hg]; exact Nat.ne_of_gt (bkl_ BK243.out) : gb250 ≠ gb243))
    have n10_ := Aside0.mk ((by rw [hg]; exact Nat.ne_of_lt (bkl_ BK244.out) : gb244 ≠ gb250))
    have n11_ := Aside0.mk ((by rw [hg]; exact Nat.ne_of_gt (bkl_ BK244.out) : gb250 ≠ gb244))
    have n12_ := Aside0.mk ((by rw [hg]; exact Nat.ne_of_lt (bkl_ BK245.out) : gb245 ≠ gb250))
    have n13_ := Aside0.mk ((by rw [hg]; exact Nat.ne_of_gt (bkl_ BK245.out) : gb250 ≠ gb245))
    have n14_ := Aside0.mk ((by rw [hg]; exact Nat.ne_of_lt (bkl_ BK251.out) : gb251 ≠ gb250))
    have n15_ := Aside0.mk ((by rw [hg]; exact Nat.ne_of_gt (bkl_ BK251.out) : gb250 ≠ gb251))
    clear BK243
    clear BK244
    clear BK245
    clear BK251
    clear HB
    have BK243 := n0_
    have BK244 := n1_
    have BK245 := n2_
    have BK251 := n3_
    have HB := n4_
    have BK250 := n5_
    have GW250 := n6_
    have GE250 := n7_
    have NB243_250 := n8_
    have NB250_243 := n9_
    have NB244_250 := n10_
    have NB250_244 := n11_
    have NB245_250 := n12_
    have NB250_245 := n13_
    have NB251_250 := n14_
    have NB250_251 := n15_
    clear n0_ n1_ n2_ n3_ n4_ n5_ n6_ n7_ n8_ n9_ n10_ n11_ n12_ n13_ n14_ n15_
    clear hb hbox hg
    refine hK.out _ _ ⟨(blk_cell BK243.out 0).trans rfl, (blk_cell BK243.out 1).trans rfl, (blk_cell BK244.out 0).trans rfl, (blk_cell BK244.out 1).trans rfl⟩ (fun hHeld => ?_)
    clear hK K
    refine norm_ (a' := ?_) ?_ ?_
    rotate_left
    ·show Act.put _ (some 5) _ = _
     simp only [Act.put, List.setIfInBounds_toArray, List.set_cons_zero, List.set_cons_succ, i64_w, i32_w]
     rfl
    exact norm_ (by first | (simp only [putAll, Act.put, List.setIfInBounds_toArray, List.set_cons_zero, List.set_cons_succ]; done) | (simp only [putAll, Act.put, List.setIfInBounds_toArray, List.set_cons_zero, List.set_cons_succ]; rfl)) (hJ4_9_10_11 (gb250, gb251) _ ⟨hHeld, (bk_ BK243.out), (bk_ BK244.out), (bk_ BK245.out), (bk_ BK250.out), (bk_ BK251.out), GW250.out, GE250.out, NB243_250.out, NB250_243.out, NB244_250.out, NB250_244.out, NB245_250.out, NB250_245.out, NB251_250.out, NB250_251.out, GW251.out, GE251.out, NB243_251.out, NB251_243.out, NB244_251.out, NB251_244.out, NB245_251.out, NB251_245.out, (hb_ HB.out)⟩)
  ·skip
   rintro gb250 w12 ⟨hS_, h0_, h1_, h2_, h3_, h4_, h5_, h6_, h7_, h8_, h9_, h10_, h11_, h12_⟩
   have n0_ : Aside0 (w12.heap[gb243]? = some (.cells #[.int .i64 a0_0, .int .i64 a0_1] 25 (0, 0))) := ⟨h0_⟩
   have n1_ : Aside0 (w12.heap[gb244]? = some (.cells #[.int .i64 a1_0, .int .i64 a1_1] 25 (0, 0))) := ⟨h1_⟩
   have n2_ : Aside0 (w12.heap[gb245]? = some (.cells #[.int .i64 0, .int .i64 0] 25 (0, 0))) := ⟨h2_⟩
   have n3_ : Aside0 (w12.heap[gb250]? = some (.cells #[.int .i64 0, .int .i64 0] 25 (0, 0))) := ⟨h3_⟩
   have n4_ : Aside0 (w.heap.size ≤ gb250) := ⟨h4_⟩
   have n5_ : Aside0 (w.heap.size ≤ gb250) := ⟨h5_⟩
   have n6_ : Aside0 (gb243 ≠ gb250) := ⟨h6_⟩
   have n7_ : Aside0 (gb250 ≠ gb243) := ⟨h7_⟩
   have n8_ : Aside0 (gb244 ≠ gb250) := ⟨h8_⟩
   have n9_ : Aside0 (gb250 ≠ gb244) := ⟨h9_⟩
   have n10_ : Aside0 (gb245 ≠ gb250) := ⟨h10_⟩
   have n11_ : Aside0 (gb250 ≠ gb245) := ⟨h11_⟩
   have n12_ : Aside0 (Below w.heap.size w w12) := ⟨h12_⟩
   clear BK243
   clear BK244
   clear BK245
   clear HB
   clear h0_ h1_ h2_ h3_ h4_ h5_ h6_ h7_ h8_ h9_ h10_ h11_ h12_
   have BK243 := n0_
   have BK244 := n1_
   have BK245 := n2_
   have BK250 := n3_
   have GW250 := n4_
   have GE250 := n5_
   have NB243_250 := n6_
   have NB250_243 := n7_
   have NB244_250 := n8_
   have NB250_244 := n9_
   have NB245_250 := n10_
   have NB250_245 := n11_
   have HB := n12_
   clear n0_ n1_ n2_ n3_ n4_ n5_ n6_ n7_ n8_ n9_ n10_ n11_ n12_
   have hHeld : w12.cell? ⟨gb243, 0, none⟩ = some (.int .i64 a0_0) ∧ w12.cell? ⟨gb243, 1, none⟩ = some (.int .i64 a0_1) ∧ w12.cell? ⟨gb244, 0, none⟩ = some (.int .i64 a1_0) ∧ w12.cell? ⟨gb244, 1, none⟩ = some (.int .i64 a1_1) := hS_
   refine norm_ (a' := ?_) ?_ ?_
   rotate_left
   ·simp only [putAll, Act.put, List.setIfInBounds_toArray, List.set_cons_zero, List.set_cons_succ]
    rfl
   refine one_ (i := 11) (N := some 6) #[true, true, true, true, true, true, true, true, true, true, true, true, false, false] rfl rfl (one_of HT_.out (by kernel_rfl)) (by decide) (fun K hK => ?_)
   refine box_step ?hg (N := 6) ?hd (cs := #[.int .i64 0, .int .i64 0]) (t := 25) ?hr ?_; (case hd => rfl); (case hg => rfl); (case hr => first | (go_simp; done) | (go_simp; rfl))
   intro gb251 hg w13 hbox hb
   have n0_ := Aside0.mk (bkb_ BK243.out hb)
   have n1_ := Aside0.mk (bkb_ BK244.out hb)
   have n2_ := Aside0.mk (bkb_ BK245.out hb)
   have n3_ := Aside0.mk (bkb_ BK250.out hb)
   have n4_ := Aside0.mk (below_step (hb_ HB.out) hb)
   have n5_ := Aside0.mk (hbox)
   have n6_ := Aside0.mk ((by rw [hg]; exact (below_size (hb_ HB.out)) : w.heap.size ≤ gb251))
   have n7_ := Aside0.mk ((by rw [hg]; exact (below_size (hb_ HB.out)) : w.heap.size ≤ gb251))
   have n8_ := Aside0.mk ((by rw [hg]; exact Nat.ne_of_lt (bkl_ BK243.out) : gb243 ≠ gb251))
   have n9_ := Aside0.mk ((by rw [hg]; exact Nat.ne_of_gt (bkl_ BK243.out) : gb251 ≠ gb243))
   have n10_ := Aside0.mk ((by rw [hg]; exact Nat.ne_of_lt (bkl_ BK244.out) : gb244 ≠ gb251))
   have n11_ := Aside0.mk ((by rw [hg]; exact Nat.ne_of_gt (bkl_ BK244.out) : gb251 ≠ gb244))
   have n12_ := Aside0.mk ((by rw [hg]; exact Nat.ne_of_lt (bkl_ BK245.out) : gb245 ≠ gb251))
   have n13_ := Aside0.mk ((by rw [hg]; exact Nat.ne_of_gt (bkl_ BK245.out) : gb251 ≠ gb245))
   have n14_ := Aside0.mk ((by rw [hg]; exact Nat.ne_of_lt (bkl_ BK250.out) : gb250 ≠ gb251))
   have n15_ := Aside0.mk ((by rw [hg]; exact Nat.ne_of_gt (bkl_ BK250.out) : gb251 ≠ gb250))
   clear BK243
   clear BK244
   clear BK245
   clear BK250
   clear HB
   have BK243 := n0_
   have BK244 := n1_
   have BK245 := n2_
   have BK250 := n3_
   have HB := n4_
   have BK251 := n5_
   have GW251 := n6_
   have GE251 := n7_
   have NB243_251 := n8_
   have NB251_243 := n9_
   have NB244_251 := n10_
   have NB251_244 := n11_
   have NB245_251 := n12_
   have NB251_245 := n13_
   have NB250_251 := n14_
   have NB251_250 := n15_
   clear n0_ n1_ n2_ n3_ n4_ n5_ n6_ n7_ n8_ n9_ n10_ n11_ n12_ n13_ n14_ n15_
   clear hb hbox hg
   refine hK.out _ _ ⟨(blk_cell BK243.out 0).trans rfl, (blk_cell BK243.out 1).trans rfl, (blk_cell BK244.out 0).trans rfl, (blk_cell BK244.out 1).trans rfl⟩ (fun hHeld => ?_)
   clear hK K
   refine norm_ (a' := ?_) ?_ ?_
   rotate_left
   ·show Act.put _ (some 6) _ = _
    simp only [Act.put, List.setIfInBounds_toArray, List.set_cons_zero, List.set_cons_succ, i64_w, i32_w]
    rfl
   exact norm_ (by first | (simp only [putAll, Act.put, List.setIfInBounds_toArray, List.set_cons_zero, List.set_cons_succ]; done) | (simp only [putAll, Act.put, List.setIfInBounds_toArray, List.set_cons_zero, List.set_cons_succ]; rfl)) (hJ4_9_10_11 (gb250, gb251) _ ⟨hHeld, (bk_ BK243.out), (bk_ BK244.out), (bk_ BK245.out), (bk_ BK250.out), (bk_ BK251.out), GW250.out, GE250.out, NB243_250.out, NB250_243.out, NB244_250.out, NB250_244.out, NB245_250.out, NB250_245.out, NB251_250.out, NB250_251.out, GW251.out, GE251.out, NB243_251.out, NB251_243.out, NB244_251.out, NB251_244.out, NB245_251.out, NB251_245.out, (hb_ HB.out)⟩)
 rintro ⟨gb250, gb251⟩ w13 ⟨hS_, h0_, h1_, h2_, h3_, h4_, h5_, h6_, h7_, h8_, h9_, h10_, h11_, h12_, h13_, h14_, h15_, h16_, h17_, h18_, h19_, h20_, h21_, h22_, h23_⟩
 have n0_ : Aside0 (w13.heap[gb243]? = some (.cells #[.int .i64 a0_0, .int .i64 a0_1] 25 (0, 0))) := ⟨h0_⟩
 have n1_ : Aside0 (w13.heap[gb244]? = some (.cells #[.int .i64 a1_0, .int .i64 a1_1] 25 (0, 0))) := ⟨h1_⟩
 have n2_ : Aside0 (w13.heap[gb245]? = some (.cells #[.int .i64 0, .int .i64 0] 25 (0, 0))) := ⟨h2_⟩
 have n3_ : Aside0 (w13.heap[gb250]? = some (.cells #[.int .i64 0, .int .i64 0] 25 (0, 0))) := ⟨h3_⟩
 have n4_ : Aside0 (w13.heap[gb251]? = some (.cells #[.int .i64 0, .int .i64 0] 25 (0, 0))) := ⟨h4_⟩
 have n5_ : Aside0 (w.heap.size ≤ gb250) := ⟨h5_⟩
 have n6_ : Aside0 (w.heap.size ≤ gb250) := ⟨h6_⟩
 have n7_ : Aside0 (gb243 ≠ gb250) := ⟨h7_⟩
 have n8_ : Aside0 (gb250 ≠ gb243) := ⟨h8_⟩
 have n9_ : Aside0 (gb244 ≠ gb250) := ⟨h9_⟩
 have n10_ : Aside0 (gb250 ≠ gb244) := ⟨h10_⟩
 have n11_ : Aside0 (gb245 ≠ gb250) := ⟨h11_⟩
 have n12_ : Aside0 (gb250 ≠ gb245) := ⟨h12_⟩
 have n13_ : Aside0 (gb251 ≠ gb250) := ⟨h13_⟩
 have n14_ : Aside0 (gb250 ≠ gb251) := ⟨h14_⟩
 have n15_ : Aside0 (w.heap.size ≤ gb251) := ⟨h15_⟩
 have n16_ : Aside0 (w.heap.size ≤ gb251) := ⟨h16_⟩
 have n17_ : Aside0 (gb243 ≠ gb251) := ⟨h17_⟩
 have n18_ : Aside0 (gb251 ≠ gb243) := ⟨h18_⟩
 have n19_ : Aside0 (gb244 ≠ gb251) := ⟨h19_⟩
 have n20_ : Aside0 (gb251 ≠ gb244) := ⟨h20_⟩
 have n21_ : Aside0 (gb245 ≠ gb251) := ⟨h21_⟩
 have n22_ : Aside0 (gb251 ≠ gb245) := ⟨h22_⟩
 have n23_ : Aside0 (Below w.heap.size w w13) := ⟨h23_⟩
 clear BK243
 clear BK244
 clear BK245
 clear HB
 clear h0_ h1_ h2_ h3_ h4_ h5_ h6_ h7_ h8_ h9_ h10_ h11_ h12_ h13_ h14_ h15_ h16_ h17_ h18_ h19_ h20_ h21_ h22_ h23_
 have BK243 := n0_
 have BK244 := n1_
 have BK245 := n2_
 have BK250 := n3_
 have BK251 := n4_
 have GW250 := n5_
 have GE250 := n6_
 have NB243_250 := n7_
 have NB250_243 := n8_
 have NB244_250 := n9_
 have NB250_244 := n10_
 have NB245_250 := n11_
 have NB250_245 := n12_
 have NB251_250 := n13_
 have NB250_251 := n14_
 have GW251 := n15_
 have GE251 := n16_
 have NB243_251 := n17_
 have NB251_243 := n18_
 have NB244_251 := n19_
 have NB251_244 := n20_
 have NB245_251 := n21_
 have NB251_245 := n22_
 have HB := n23_
 clear n0_ n1_ n2_ n3_ n4_ n5_ n6_ n7_ n8_ n9_ n10_ n11_ n12_ n13_ n14_ n15_ n16_ n17_ n18_ n19_ n20_ n21_ n22_ n23_
 have hHeld : w13.cell? ⟨gb243, 0, none⟩ = some (.int .i64 a0_0) ∧ w13.cell? ⟨gb243, 1, none⟩ = some (.int .i64 a0_1) ∧ w13.cell? ⟨gb244, 0, none⟩ = some (.int .i64 a1_0) ∧ w13.cell? ⟨gb244, 1, none⟩ = some (.int .i64 a1_1) := hS_
 refine norm_ (a' := ?_) ?_ ?_
 rotate_left
 ·simp only [putAll, Act.put, List.setIfInBounds_toArray, List.set_cons_zero, List.set_cons_succ]
  rfl
 refine one_ (i := 12) (N := none) #[true, true, true, true, true, true, true, true, true, true, true, true, true, false] rfl rfl (one_of HT_.out (by kernel_rfl)) (by decide) (fun K hK => ?_)
 have hs14 : w13.cell? ⟨gb250, 0, none⟩ = some (.int .i64 0) := (blk_cell BK250.out 0).trans rfl
 have hfs14 := blk_frozen BK250.out 0
 have hns14_0 := NB243_250.out
 have hns14_1 := NB244_250.out
 have hns14_2 := NB245_250.out
 have hns14_4 := NB251_250.out
 have hms14_0 := NB250_243.out
 have hms14_1 := NB250_244.out
 have hms14_2 := NB250_245.out
 have hms14_4 := NB250_251.out
 have hs15 : w13.cell? ⟨gb250, 1, none⟩ = some (.int .i64 0) := (blk_cell BK250.out 1).trans rfl
 have hfs15 := blk_frozen BK250.out 1
 have hns15_0 := NB243_250.out
 have hns15_1 := NB244_250.out
 have hns15_2 := NB245_250.out
 have hns15_4 := NB251_250.out
 have hms15_0 := NB250_243.out
 have hms15_1 := NB250_244.out
 have hms15_2 := NB250_245.out
 have hms15_4 := NB250_251.out
 refine skip_ (w1 := ?_) (by rfl) rfl ?_ ?_
 rotate_left
 ·go_simp
  rfl
 refine hK.out _ _ ⟨((cell_far (p := ⟨gb250, _, none⟩) NB243_250.out _).trans (((cell_far (p := ⟨gb250, _, none⟩) NB243_250.out _).trans (hHeld.1)))), ((cell_far (p := ⟨gb250, _, none⟩) NB243_250.out _).trans (((cell_far (p := ⟨gb250, _, none⟩) NB243_250.out _).trans (hHeld.2.1)))), ((cell_far (p := ⟨gb250, _, none⟩) NB244_250.out _).trans (((cell_far (p := ⟨gb250, _, none⟩) NB244_250.out _).trans (hHeld.2.2.1)))), ((cell_far (p := ⟨gb250, _, none⟩) NB244_250.out _).trans (((cell_far (p := ⟨gb250, _, none⟩) NB244_250.out _).trans (hHeld.2.2.2))))⟩ (fun hHeld => ?_)
 clear hK K
 refine one_ (i := 13) (N := none) #[true, true, true, true, true, true, true, true, true, true, true, true, true, true] rfl rfl (one_of HT_.out (by kernel_rfl)) (by decide) (fun K hK => ?_)
 have hs16 : w13.cell? ⟨gb251, 0, none⟩ = some (.int .i64 0) := (blk_cell BK251.out 0).trans rfl
 have hfs16 := blk_frozen BK251.out 0
 have hns16_0 := NB243_251.out
 have hns16_1 := NB244_251.out
 have hns16_2 := NB245_251.out
 have hns16_3 := NB250_251.out
 have hms16_0 := NB251_243.out
 have hms16_1 := NB251_244.out
 have hms16_2 := NB251_245.out
 have hms16_3 := NB251_250.out
 have hs17 : w13.cell? ⟨gb251, 1, none⟩ = some (.int .i64 0) := (blk_cell BK251.out 1).trans rfl
 have hfs17 := blk_frozen BK251.out 1
 have hns17_0 := NB243_251.out
 have hns17_1 := NB244_251.out
 have hns17_2 := NB245_251.out
 have hns17_3 := NB250_251.out
 have hms17_0 := NB251_243.out
 have hms17_1 := NB251_244.out
 have hms17_2 := NB251_245.out
 have hms17_3 := NB251_250.out
 refine skip_ (w1 := ?_) (by rfl) rfl ?_ ?_
 rotate_left
 ·go_simp
  rfl
 refine hK.out _ _ ⟨((cell_far (p := ⟨gb251, _, none⟩) NB243_251.out _).trans (((cell_far (p := ⟨gb251, _, none⟩) NB243_251.out _).trans (hHeld.1)))), ((cell_far (p := ⟨gb251, _, none⟩) NB243_251.out _).trans (((cell_far (p := ⟨gb251, _, none⟩) NB243_251.out _).trans (hHeld.2.1)))), ((cell_far (p := ⟨gb251, _, none⟩) NB244_251.out _).trans (((cell_far (p := ⟨gb251, _, none⟩) NB244_251.out _).trans (hHeld.2.2.1)))), ((cell_far (p := ⟨gb251, _, none⟩) NB244_251.out _).trans (((cell_far (p := ⟨gb251, _, none⟩) NB244_251.out _).trans (hHeld.2.2.2))))⟩ (fun hHeld => ?_)
 clear hK K
 refine done_ (done_of HT_.out (by kernel_rfl)) ?_
 have hnb18 := NB250_243.out
 have hnc18 := NB243_250.out
 have hnb19 := NB250_244.out
 have hnc19 := NB244_250.out
 have hnb20 := NB250_245.out
 have hnc20 := NB245_250.out
 have hnb21 := NB250_251.out
 have hnc21 := NB251_250.out
 have hcz22_0 : w13.cell? ⟨gb250, 0, none⟩ = some (.int .i64 0) := (blk_cell BK250.out 0).trans rfl
 have hcz22_1 : w13.cell? ⟨gb250, 1, none⟩ = some (.int .i64 0) := (blk_cell BK250.out 1).trans rfl
 have hfz22_0 := blk_frozen BK250.out 0
 have hfz22_1 := blk_frozen BK250.out 1
 have hnb23 := NB251_243.out
 have hnc23 := NB243_251.out
 have hnb24 := NB251_244.out
 have hnc24 := NB244_251.out
 have hnb25 := NB251_245.out
 have hnc25 := NB245_251.out
 have hcz26_0 : w13.cell? ⟨gb251, 0, none⟩ = some (.int .i64 0) := (blk_cell BK251.out 0).trans rfl
 have hcz26_1 : w13.cell? ⟨gb251, 1, none⟩ = some (.int .i64 0) := (blk_cell BK251.out 1).trans rfl
 have hfz26_0 := blk_frozen BK251.out 0
 have hfz26_1 := blk_frozen BK251.out 1
 have hnb27 := NB245_243.out
 have hnc27 := NB243_245.out
 have hnb28 := NB245_244.out
 have hnc28 := NB244_245.out
 have hcz29_0 : w13.cell? ⟨gb245, 0, none⟩ = some (.int .i64 0) := (blk_cell BK245.out 0).trans rfl
 have hcz29_1 : w13.cell? ⟨gb245, 1, none⟩ = some (.int .i64 0) := (blk_cell BK245.out 1).trans rfl
 have hfz29_0 := blk_frozen BK245.out 0
 have hfz29_1 := blk_frozen BK245.out 1
 try go_wp2
 refine bodyPost_ret (results_cell_row rfl _ _ gb245 25 #[.int .i64 (wrap64 (t246 * t248)), .int .i64 (wrap64 (t247 * t249))] (0, 0) _ rfl (by (with_reducible repeat (first | refine blk_drewN ?_ _ | refine blk_drew ?_ | refine blk_alloc ?_ _)); refine blk_put (cs := #[.int .i64 (wrap64 (t246 * t248)), .int .i64 0]) ?_ 1 _ rfl; (with_reducible repeat (first | refine blk_drewN ?_ _ | refine blk_drew ?_ | refine blk_alloc ?_ _)); refine blk_put (cs := #[.int .i64 0, .int .i64 0]) ?_ 0 _ rfl; (with_reducible repeat (first | refine blk_drewN ?_ _ | refine blk_drew ?_ | refine blk_alloc ?_ _)); refine blk_far ?_ NB245_251.out _; (with_reducible repeat (first | refine blk_drewN ?_ _ | refine blk_drew ?_ | refine blk_alloc ?_ _)); refine blk_far ?_ NB245_251.out _; (with_reducible repeat (first | refine blk_drewN ?_ _ | refine blk_drew ?_ | refine blk_alloc ?_ _)); refine blk_far ?_ NB245_250.out _; (with_reducible repeat (first | refine blk_drewN ?_ _ | refine blk_drew ?_ | refine blk_alloc ?_ _)); refine blk_far ?_ NB245_250.out _; (with_reducible repeat (first | refine blk_drewN ?_ _ | refine blk_drew ?_ | refine blk_alloc ?_ _)); exact BK245.out) Try.underlying25 rfl (by kernel_rfl)) rfl ?_
 exact ⟨by first | rfl | (simp [errW_none, errW_some] <;> rfl) | (simp [*, errW_none, errW_some] <;> rfl), by repeat (first | (with_reducible first | exact HB.out | apply below_alloc | apply pw_below_drewN | apply below_drew1 | refine below_set ?_ GE243.out | refine below_set ?_ GE244.out | refine below_set ?_ GE245.out | refine below_set ?_ GE250.out | refine below_set ?_ GE251.out) | exact HB.out)⟩

end Go.Proofs.Ytigmhomfadimnaa.X
