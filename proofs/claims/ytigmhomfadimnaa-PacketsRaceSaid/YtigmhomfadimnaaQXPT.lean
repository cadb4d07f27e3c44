/- Written by a program of this session (wip/tools/xprint.py, which calls the kit's print): Go functions as Lean functions, and for each the proof that the machine's call does what it says; no conditions but those that each theorem names. -/
import Derived.Test.YtigmhomfadimnaaQX0
import Derived.Test.YtigmhomfadimnaaQXP
namespace Go.Proofs.Ytigmhomfadimnaa.X
open Go.RowKit Go.Proofs.YtigmhomfadimnaaW.PrintWords Go.Proofs.YtigmhomfadimnaaW.PrintLast Go.Proofs.YtigmhomfadimnaaW.PrintMore
attribute [local go_sem] max2_int min2_int max_two min_two max_three min_three max_four min_four   -- for this text's walks alone
set_option linter.unusedVariables false
set_option linter.unusedSimpArgs false

/-! ### packets_times: function 70 -/
def packets_times.f (k : Nat) (a0_0 : Int) (a0_1 : Int) (a1_0 : Int) (a1_1 : Int) : Option (Int × Int) := (packets_frac.f k a0_0 a1_1).bind fun bt113 => ((packets_frac.f k a1_0 a0_1).bind fun bt115 => (some (wrap64 (bt113.1 * bt115.1), wrap64 (bt113.2 * bt115.2))))
theorem packets_times.mono : ∀ a0 a1 a2 a3 k, LeO (packets_times.f k a0 a1 a2 a3) (packets_times.f (k + 1) a0 a1 a2 a3) := by
 intro a0 a1 a2 a3 k
 unfold packets_times.f
 repeat' first
   | (with_reducible exact packets_frac.mono _ _ _)
   | (with_reducible exact LeO.refl _)
   | (with_reducible exact LeO.none _)
   | (with_reducible refine LeO.ite ?_ ?_)
   | (with_reducible refine LeO.bind ?_ (fun _ => ?_))
   | exact packets_frac.mono _ _ _
   | exact LeO.none _
   | refine LeO.ite ?_ ?_
   | refine LeO.bind ?_ (fun _ => ?_)
def packets_times.T1 : Bool × List (List Nat × List Nat) := (true, [([], []), ([0], [0]), ([], []), ([2], [2]), ([1, 3], [1, 3]), ([], []), ([5], [5]), ([], []), ([7], [7]), ([6, 8, 4], [6, 8]), ([], []), ([], []), ([10, 4, 9, 0, 1, 2, 3, 4, 10, 11], [4, 10]), ([11, 9, 12, 0, 1, 2, 3, 4, 5, 6, 7, 8, 9, 10, 11, 12], [9, 11])])
def packets_times.B1 : List Nat := [0, 1, 0, 4, 15, 0, 32, 0, 128, 511, 0, 0, 4095, 8191]
theorem packets_times.tab1 : rtab .any (opsOf Try.f70 1) = packets_times.T1 := by kernel_rfl
theorem packets_times.bits1 : waitsOk packets_times.T1.2 packets_times.B1 = true := by kernel_rfl
set_option maxHeartbeats 8000000 in
set_option maxRecDepth 100000 in
theorem packets_times.calls (k : Nat) (a0_0 : Int) (a0_1 : Int) (a1_0 : Int) (a1_1 : Int) (r1 : Int) (r2 : Int) (w : World) (h : packets_times.f k a0_0 a0_1 a1_0 a1_1 = some (r1, r2)) :
  Calls Try.prog 70 #[.agg #[.int .i64 a0_0, .int .i64 a0_1], .agg #[.int .i64 a1_0, .int .i64 a1_1]] w fun e w' => e = .returned (.agg #[.int .i64 r1, .int .i64 r2]) ∧ Below w.heap.size w w' := by
 have hu25 := Try.underlying25
 have HB := Aside0.mk (Below.refl w.heap.size w)
 have H : ((packets_frac.f k a0_0 a1_1).bind fun bt113 => ((packets_frac.f k a1_0 a0_1).bind fun bt115 => (some (wrap64 (bt113.1 * bt115.1), wrap64 (bt113.2 * bt115.2))))) = some (r1, r2) := h
 clear h
 replace H := Option.bind_eq_some_iff.mp H
 obtain ⟨⟨t113, t114⟩, A30, H⟩ := H
 replace H : ((packets_frac.f k a1_0 a0_1).bind fun bt115 => (some (wrap64 (t113 * bt115.1), wrap64 (t114 * bt115.2)))) = some (r1, r2) := H
 have A3 := Aside0.mk A30
 clear A30
 replace H := Option.bind_eq_some_iff.mp H
 obtain ⟨⟨t115, t116⟩, A40, H⟩ := H
 replace H : (some (wrap64 (t113 * t115), wrap64 (t114 * t116))) = some (r1, r2) := H
 have A4 := Aside0.mk A40
 clear A40
 simp only [Option.some.injEq, Prod.mk.injEq] at H
 obtain ⟨rfl, rfl⟩ := H
 go_enter Try.func70, Try.ntmps70
 try go_wp2_with (first | ((with_reducible refine gate_dst (N := 2) rfl ?_); refine box_event ?hg (N := 2) ?hd (cs := #[.int .i64 a0_0, .int .i64 a0_1]) (t := 25) ?hr ?_; (case hd => rfl); (case hg => rfl); (case hr => first | (go_simp; done) | (go_simp; rfl)); intro gb110 hg w5 hbox hb; have n0_ := Aside0.mk (below_step (hb_ HB.out) hb); have n1_ := Aside0.mk (hbox); have n2_ := Aside0.mk ((by rw [hg]; exact (below_size (hb_ HB.out)) : w.heap.size ≤ gb110)); have n3_ := Aside0.mk ((by rw [hg]; exact (below_size (hb_ HB.out)) : w.heap.size ≤ gb110)); clear HB; have HB := n0_; have BK110 := n1_; have GW110 := n2_; have GE110 := n3_; clear n0_ n1_ n2_ n3_; clear hb hbox hg) | ((with_reducible refine gate_dst (N := 3) rfl ?_); refine box_event ?hg (N := 3) ?hd (cs := #[.int .i64 a1_0, .int .i64 a1_1]) (t := 25) ?hr ?_; (case hd => rfl); (case hg => rfl); (case hr => first | (go_simp; done) | (go_simp; rfl)); intro gb111 hg w6 hbox hb; have n0_ := Aside0.mk (bkb_ BK110.out hb); have n1_ := Aside0.mk (below_step (hb_ HB.out) hb); have n2_ := Aside0.mk (hbox); have n3_ := Aside0.mk ((by rw [hg]; exact (below_size (hb_ HB.out)) : w.heap.size ≤ gb111)); have n4_ := Aside0.mk ((by rw [hg]; exact (below_size (hb_ HB.out)) : w.heap.size ≤ gb111)); have n5_ := Aside0.mk ((by rw [hg]; exact Nat.ne_of_lt (bkl_ BK110.out) : gb110 ≠ gb111)); have n6_ := Aside0.mk ((by rw [hg]; exact Nat.ne_of_gt (bkl_ BK110.out) : gb111 ≠ gb110)); clear BK110; clear HB; have BK110 := n0_; have HB := n1_; have BK111 := n2_; have GW111 := n3_; have GE111 := n4_; have NB110_111 := n5_; have NB111_110 := n6_; clear n0_ n1_ n2_ n3_ n4_ n5_ n6_; clear hb hbox hg) | ((with_reducible refine gate_dst (N := 4) rfl ?_); refine box_event ?hg (N := 4) ?hd (cs := #[.int .i64 0, .int .i64 0]) (t := 25) ?hr ?_; (case hd => rfl); (case hg => rfl); (case hr => first | (go_simp; done) | (go_simp; rfl)); intro gb112 hg w7 hbox hb; have n0_ := Aside0.mk (bkb_ BK110.out hb); have n1_ := Aside0.mk (bkb_ BK111.out hb); have n2_ := Aside0.mk (below_step (hb_ HB.out) hb); have n3_ := Aside0.mk (hbox); have n4_ := Aside0.mk ((by rw [hg]; exact (below_size (hb_ HB.out)) : w.heap.size ≤ gb112)); have n5_ := Aside0.mk ((by rw [hg]; exact (below_size (hb_ HB.out)) : w.heap.size ≤ gb112)); have n6_ := Aside0.mk ((by rw [hg]; exact Nat.ne_of_lt (bkl_ BK110.out) : gb110 ≠ gb112)); have n7_ := Aside0.mk ((by rw [hg]; exact Nat.ne_of_gt (bkl_ BK110.out) : gb112 ≠ gb110)); have n8_ := Aside0.mk ((by rw [hg]; exact Nat.ne_of_lt (bkl_ BK111.out) : gb111 ≠ gb112)); have n9_ := Aside0.mk ((by rw [hg]; exact Nat.ne_of_gt (bkl_ BK111.out) : gb112 ≠ gb111)); clear BK110; clear BK111; clear HB; have BK110 := n0_; have BK111 := n1_; have HB := n2_; have BK112 := n3_; have GW112 := n4_; have GE112 := n5_; have NB110_112 := n6_; have NB112_110 := n7_; have NB111_112 := n8_; have NB112_111 := n9_; clear n0_ n1_ n2_ n3_ n4_ n5_ n6_ n7_ n8_ n9_; clear hb hbox hg))
 have n0_ := Aside0.mk (blk_drew BK110.out)
 have n1_ := Aside0.mk (blk_drew BK111.out)
 have n2_ := Aside0.mk (blk_drew BK112.out)
 have n3_ := Aside0.mk (below_drew1 HB.out)
 clear BK110
 clear BK111
 clear BK112
 clear HB
 have BK110 := n0_
 have BK111 := n1_
 have BK112 := n2_
 have HB := n3_
 clear n0_ n1_ n2_ n3_
 refine start_ (n := 14) (S := fun w' => w'.cell? ⟨gb110, 0, none⟩ = some (.int .i64 a0_0) ∧ w'.cell? ⟨gb110, 1, none⟩ = some (.int .i64 a0_1) ∧ w'.cell? ⟨gb111, 0, none⟩ = some (.int .i64 a1_0) ∧ w'.cell? ⟨gb111, 1, none⟩ = some (.int .i64 a1_1)) (ds := []) #[false, false, false, false, false, false, false, false, false, false, false, false, false, false] (by kernel_rfl) rfl rfl ⟨(blk_cell BK110.out 0).trans rfl, (blk_cell BK110.out 1).trans rfl, (blk_cell BK111.out 0).trans rfl, (blk_cell BK111.out 1).trans rfl⟩ (fun hHeld => ?_); refine with_tabW packets_times.tab1 packets_times.bits1 (fun HT_ HW_ => ?_)
 generalize w7.drew = w8 at BK110 BK111 BK112 HB hHeld ⊢
 refine pure_ (i := 0) (N := some 7) (v := ?_) (a' := ?_) #[true, false, false, false, false, false, false, false, false, false, false, false, false, false] rfl rfl (any_of HT_.out (by kernel_rfl)) (fun _ _ _ h => h) (Or.inl ⟨by rfl, ?_⟩) ?_ ?_
 rotate_left
 ·intro w'
  go_simp
  with_reducible rfl
 rotate_left
 ·simp only [Act.put, List.setIfInBounds_toArray, List.set_cons_zero, List.set_cons_succ, i64_w, i32_w]
  rfl
 refine pure_ (i := 2) (N := some 9) (v := ?_) (a' := ?_) #[true, false, true, false, false, false, false, false, false, false, false, false, false, false] rfl rfl (any_of HT_.out (by kernel_rfl)) (fun _ _ _ h => h) (Or.inl ⟨by rfl, ?_⟩) ?_ ?_
 rotate_left
 ·intro w'
  go_simp
  with_reducible rfl
 rotate_left
 ·simp only [Act.put, List.setIfInBounds_toArray, List.set_cons_zero, List.set_cons_succ, i64_w, i32_w]
  rfl
 refine pure_ (i := 5) (N := some 12) (v := ?_) (a' := ?_) #[true, false, true, false, false, true, false, false, false, false, false, false, false, false] rfl rfl (any_of HT_.out (by kernel_rfl)) (fun _ _ _ h => h) (Or.inl ⟨by rfl, ?_⟩) ?_ ?_
 rotate_left
 ·intro w'
  go_simp
  with_reducible rfl
 rotate_left
 ·simp only [Act.put, List.setIfInBounds_toArray, List.set_cons_zero, List.set_cons_succ, i64_w, i32_w]
  rfl
 refine pure_ (i := 7) (N := some 14) (v := ?_) (a' := ?_) #[true, false, true, false, false, true, false, true, false, false, false, false, false, false] rfl rfl (any_of HT_.out (by kernel_rfl)) (fun _ _ _ h => h) (Or.inl ⟨by rfl, ?_⟩) ?_ ?_
 rotate_left
 ·intro w'
  go_simp
  with_reducible rfl
 rotate_left
 ·simp only [Act.put, List.setIfInBounds_toArray, List.set_cons_zero, List.set_cons_succ, i64_w, i32_w]
  rfl
 refine take_ (i := 1) (N := some 8) (v := ?_) (a' := ?_) #[true, true, true, false, false, true, false, true, false, false, false, false, false, false] rfl rfl (take_ofW HT_.out HW_.out (by kernel_rfl)) (fun _ _ _ h => h) (Or.inl ⟨by rfl, ?_⟩) hHeld ?_ ?_
 rotate_left
 ·rintro w' ⟨s0, s1, s2, s3⟩
  go_simp
  with_reducible rfl
 rotate_left
 ·simp only [Act.put, List.setIfInBounds_toArray, List.set_cons_zero, List.set_cons_succ, i64_w, i32_w]
  rfl
 refine take_ (i := 3) (N := some 10) (v := ?_) (a' := ?_) #[true, true, true, true, false, true, false, true, false, false, false, false, false, false] rfl rfl (take_ofW HT_.out HW_.out (by kernel_rfl)) (fun _ _ _ h => h) (Or.inl ⟨by rfl, ?_⟩) hHeld ?_ ?_
 rotate_left
 ·rintro w' ⟨s0, s1, s2, s3⟩
  go_simp
  with_reducible rfl
 rotate_left
 ·simp only [Act.put, List.setIfInBounds_toArray, List.set_cons_zero, List.set_cons_succ, i64_w, i32_w]
  rfl
 refine take_ (i := 6) (N := some 13) (v := ?_) (a' := ?_) #[true, true, true, true, false, true, true, true, false, false, false, false, false, false] rfl rfl (take_ofW HT_.out HW_.out (by kernel_rfl)) (fun _ _ _ h => h) (Or.inl ⟨by rfl, ?_⟩) hHeld ?_ ?_
 rotate_left
 ·rintro w' ⟨s0, s1, s2, s3⟩
  go_simp
  with_reducible rfl
 rotate_left
 ·simp only [Act.put, List.setIfInBounds_toArray, List.set_cons_zero, List.set_cons_succ, i64_w, i32_w]
  rfl
 refine take_ (i := 8) (N := some 15) (v := ?_) (a' := ?_) #[true, true, true, true, false, true, true, true, true, false, false, false, false, false] rfl rfl (take_ofW HT_.out HW_.out (by kernel_rfl)) (fun _ _ _ h => h) (Or.inl ⟨by rfl, ?_⟩) hHeld ?_ ?_
 rotate_left
 ·rintro w' ⟨s0, s1, s2, s3⟩
  go_simp
  with_reducible rfl
 rotate_left
 ·simp only [Act.put, List.setIfInBounds_toArray, List.set_cons_zero, List.set_cons_succ, i64_w, i32_w]
  rfl
 refine join_ (σ := Nat × Nat) 2 #[true, true, true, true, true, true, true, true, true, true, true, true, false, false] (fun s_ => [(11, .agg #[.int .i64 t113, .int .i64 t114]), (16, .agg #[.int .i64 t115, .int .i64 t116]), (5, .pointer (some ⟨s_.1, 0, none⟩)), (6, .pointer (some ⟨s_.2, 0, none⟩))]) (fun s_ w' => (w'.cell? ⟨gb110, 0, none⟩ = some (.int .i64 a0_0) ∧ w'.cell? ⟨gb110, 1, none⟩ = some (.int .i64 a0_1) ∧ w'.cell? ⟨gb111, 0, none⟩ = some (.int .i64 a1_0) ∧ w'.cell? ⟨gb111, 1, none⟩ = some (.int .i64 a1_1)) ∧ (w'.heap[gb110]? = some (.cells #[.int .i64 a0_0, .int .i64 a0_1] 25 (0, 0))) ∧ (w'.heap[gb111]? = some (.cells #[.int .i64 a1_0, .int .i64 a1_1] 25 (0, 0))) ∧ (w'.heap[gb112]? = some (.cells #[.int .i64 0, .int .i64 0] 25 (0, 0))) ∧ (w'.heap[s_.1]? = some (.cells #[.int .i64 0, .int .i64 0] 25 (0, 0))) ∧ (w'.heap[s_.2]? = some (.cells #[.int .i64 0, .int .i64 0] 25 (0, 0))) ∧ (w.heap.size ≤ s_.1) ∧ (w.heap.size ≤ s_.1) ∧ (gb110 ≠ s_.1) ∧ (s_.1 ≠ gb110) ∧ (gb111 ≠ s_.1) ∧ (s_.1 ≠ gb111) ∧ (gb112 ≠ s_.1) ∧ (s_.1 ≠ gb112) ∧ (s_.2 ≠ s_.1) ∧ (s_.1 ≠ s_.2) ∧ (w.heap.size ≤ s_.2) ∧ (w.heap.size ≤ s_.2) ∧ (gb110 ≠ s_.2) ∧ (s_.2 ≠ gb110) ∧ (gb111 ≠ s_.2) ∧ (s_.2 ≠ gb111) ∧ (gb112 ≠ s_.2) ∧ (s_.2 ≠ gb112) ∧ (Below w.heap.size w w')) ?_ ?_
 rotate_left
 ·intro hJ4_9_10_11
  refine join_ (σ := Nat) 3 #[true, true, true, true, true, true, true, true, true, true, true, false, false, false] (fun s_ => [(11, .agg #[.int .i64 t113, .int .i64 t114]), (16, .agg #[.int .i64 t115, .int .i64 t116]), (5, .pointer (some ⟨s_, 0, none⟩))]) (fun s_ w' => (w'.cell? ⟨gb110, 0, none⟩ = some (.int .i64 a0_0) ∧ w'.cell? ⟨gb110, 1, none⟩ = some (.int .i64 a0_1) ∧ w'.cell? ⟨gb111, 0, none⟩ = some (.int .i64 a1_0) ∧ w'.cell? ⟨gb111, 1, none⟩ = some (.int .i64 a1_1)) ∧ (w'.heap[gb110]? = some (.cells #[.int .i64 a0_0, .int .i64 a0_1] 25 (0, 0))) ∧ (w'.heap[gb111]? = some (.cells #[.int .i64 a1_0, .int .i64 a1_1] 25 (0, 0))) ∧ (w'.heap[gb112]? = some (.cells #[.int .i64 0, .int .i64 0] 25 (0, 0))) ∧ (w'.heap[s_]? = some (.cells #[.int .i64 0, .int .i64 0] 25 (0, 0))) ∧ (w.heap.size ≤ s_) ∧ (w.heap.size ≤ s_) ∧ (gb110 ≠ s_) ∧ (s_ ≠ gb110) ∧ (gb111 ≠ s_) ∧ (s_ ≠ gb111) ∧ (gb112 ≠ s_) ∧ (s_ ≠ gb112) ∧ (Below w.heap.size w w')) ?_ ?_
  rotate_left
  ·intro hJ4_9_10
   refine join_ (σ := Nat) 3 #[true, true, true, true, true, true, true, true, true, true, false, true, false, false] (fun s_ => [(11, .agg #[.int .i64 t113, .int .i64 t114]), (16, .agg #[.int .i64 t115, .int .i64 t116]), (6, .pointer (some ⟨s_, 0, none⟩))]) (fun s_ w' => (w'.cell? ⟨gb110, 0, none⟩ = some (.int .i64 a0_0) ∧ w'.cell? ⟨gb110, 1, none⟩ = some (.int .i64 a0_1) ∧ w'.cell? ⟨gb111, 0, none⟩ = some (.int .i64 a1_0) ∧ w'.cell? ⟨gb111, 1, none⟩ = some (.int .i64 a1_1)) ∧ (w'.heap[gb110]? = some (.cells #[.int .i64 a0_0, .int .i64 a0_1] 25 (0, 0))) ∧ (w'.heap[gb111]? = some (.cells #[.int .i64 a1_0, .int .i64 a1_1] 25 (0, 0))) ∧ (w'.heap[gb112]? = some (.cells #[.int .i64 0, .int .i64 0] 25 (0, 0))) ∧ (w'.heap[s_]? = some (.cells #[.int .i64 0, .int .i64 0] 25 (0, 0))) ∧ (w.heap.size ≤ s_) ∧ (w.heap.size ≤ s_) ∧ (gb110 ≠ s_) ∧ (s_ ≠ gb110) ∧ (gb111 ≠ s_) ∧ (s_ ≠ gb111) ∧ (gb112 ≠ s_) ∧ (s_ ≠ gb112) ∧ (Below w.heap.size w w')) ?_ ?_
   rotate_left
   ·intro hJ4_9_11
    refine join_ (σ := Nat × Nat) 3 #[true, true, true, true, true, true, true, true, true, false, true, true, false, false] (fun s_ => [(11, .agg #[.int .i64 t113, .int .i64 t114]), (5, .pointer (some ⟨s_.1, 0, none⟩)), (6, .pointer (some ⟨s_.2, 0, none⟩))]) (fun s_ w' => (w'.cell? ⟨gb110, 0, none⟩ = some (.int .i64 a0_0) ∧ w'.cell? ⟨gb110, 1, none⟩ = some (.int .i64 a0_1) ∧ w'.cell? ⟨gb111, 0, none⟩ = some (.int .i64 a1_0) ∧ w'.cell? ⟨gb111, 1, none⟩ = some (.int .i64 a1_1)) ∧ (w'.heap[gb110]? = some (.cells #[.int .i64 a0_0, .int .i64 a0_1] 25 (0, 0))) ∧ (w'.heap[gb111]? = some (.cells #[.int .i64 a1_0, .int .i64 a1_1] 25 (0, 0))) ∧ (w'.heap[gb112]? = some (.cells #[.int .i64 0, .int .i64 0] 25 (0, 0))) ∧ (w'.heap[s_.1]? = some (.cells #[.int .i64 0, .int .i64 0] 25 (0, 0))) ∧ (w'.heap[s_.2]? = some (.cells #[.int .i64 0, .int .i64 0] 25 (0, 0))) ∧ (w.heap.size ≤ s_.1) ∧ (w.heap.size ≤ s_.1) ∧ (gb110 ≠ s_.1) ∧ (s_.1 ≠ gb110) ∧ (gb111 ≠ s_.1) ∧ (s_.1 ≠ gb111) ∧ (gb112 ≠ s_.1) ∧ (s_.1 ≠ gb112) ∧ (s_.2 ≠ s_.1) ∧ (s_.1 ≠ s_.2) ∧ (w.heap.size ≤ s_.2) ∧ (w.heap.size ≤ s_.2) ∧ (gb110 ≠ s_.2) ∧ (s_.2 ≠ gb110) ∧ (gb111 ≠ s_.2) ∧ (s_.2 ≠ gb111) ∧ (gb112 ≠ s_.2) ∧ (s_.2 ≠ gb112) ∧ (Below w.heap.size w w')) ?_ ?_
    rotate_left
    ·intro hJ4_10_11
     refine join_ (σ := Unit) 4 #[true, true, true, true, true, true, true, true, true, true, false, false, false, false] (fun s_ => [(11, .agg #[.int .i64 t113, .int .i64 t114]), (16, .agg #[.int .i64 t115, .int .i64 t116])]) (fun s_ w' => (w'.cell? ⟨gb110, 0, none⟩ = some (.int .i64 a0_0) ∧ w'.cell? ⟨gb110, 1, none⟩ = some (.int .i64 a0_1) ∧ w'.cell? ⟨gb111, 0, none⟩ = some (.int .i64 a1_0) ∧ w'.cell? ⟨gb111, 1, none⟩ = some (.int .i64 a1_1)) ∧ (w'.heap[gb110]? = some (.cells #[.int .i64 a0_0, .int .i64 a0_1] 25 (0, 0))) ∧ (w'.heap[gb111]? = some (.cells #[.int .i64 a1_0, .int .i64 a1_1] 25 (0, 0))) ∧ (w'.heap[gb112]? = some (.cells #[.int .i64 0, .int .i64 0] 25 (0, 0))) ∧ (Below w.heap.size w w')) ?_ ?_
     rotate_left
     ·intro hJ4_9
      refine join_ (σ := Nat) 4 #[true, true, true, true, true, true, true, true, true, false, true, false, false, false] (fun s_ => [(11, .agg #[.int .i64 t113, .int .i64 t114]), (5, .pointer (some ⟨s_, 0, none⟩))]) (fun s_ w' => (w'.cell? ⟨gb110, 0, none⟩ = some (.int .i64 a0_0) ∧ w'.cell? ⟨gb110, 1, none⟩ = some (.int .i64 a0_1) ∧ w'.cell? ⟨gb111, 0, none⟩ = some (.int .i64 a1_0) ∧ w'.cell? ⟨gb111, 1, none⟩ = some (.int .i64 a1_1)) ∧ (w'.heap[gb110]? = some (.cells #[.int .i64 a0_0, .int .i64 a0_1] 25 (0, 0))) ∧ (w'.heap[gb111]? = some (.cells #[.int .i64 a1_0, .int .i64 a1_1] 25 (0, 0))) ∧ (w'.heap[gb112]? = some (.cells #[.int .i64 0, .int .i64 0] 25 (0, 0))) ∧ (w'.heap[s_]? = some (.cells #[.int .i64 0, .int .i64 0] 25 (0, 0))) ∧ (w.heap.size ≤ s_) ∧ (w.heap.size ≤ s_) ∧ (gb110 ≠ s_) ∧ (s_ ≠ gb110) ∧ (gb111 ≠ s_) ∧ (s_ ≠ gb111) ∧ (gb112 ≠ s_) ∧ (s_ ≠ gb112) ∧ (Below w.heap.size w w')) ?_ ?_
      rotate_left
      ·intro hJ4_10
       refine join_ (σ := Nat) 4 #[true, true, true, true, true, true, true, true, true, false, false, true, false, false] (fun s_ => [(11, .agg #[.int .i64 t113, .int .i64 t114]), (6, .pointer (some ⟨s_, 0, none⟩))]) (fun s_ w' => (w'.cell? ⟨gb110, 0, none⟩ = some (.int .i64 a0_0) ∧ w'.cell? ⟨gb110, 1, none⟩ = some (.int .i64 a0_1) ∧ w'.cell? ⟨gb111, 0, none⟩ = some (.int .i64 a1_0) ∧ w'.cell? ⟨gb111, 1, none⟩ = some (.int .i64 a1_1)) ∧ (w'.heap[gb110]? = some (.cells #[.int .i64 a0_0, .int .i64 a0_1] 25 (0, 0))) ∧ (w'.heap[gb111]? = some (.cells #[.int .i64 a1_0, .int .i64 a1_1] 25 (0, 0))) ∧ (w'.heap[gb112]? = some (.cells #[.int .i64 0, .int .i64 0] 25 (0, 0))) ∧ (w'.heap[s_]? = some (.cells #[.int .i64 0, .int .i64 0] 25 (0, 0))) ∧ (w.heap.size ≤ s_) ∧ (w.heap.size ≤ s_) ∧ (gb110 ≠ s_) ∧ (s_ ≠ gb110) ∧ (gb111 ≠ s_) ∧ (s_ ≠ gb111) ∧ (gb112 ≠ s_) ∧ (s_ ≠ gb112) ∧ (Below w.heap.size w w')) ?_ ?_
       rotate_left
       ·intro hJ4_11
        refine join_ (σ := Nat × Nat) 4 #[true, true, true, true, false, true, true, true, true, false, true, true, false, false] (fun s_ => [(5, .pointer (some ⟨s_.1, 0, none⟩)), (6, .pointer (some ⟨s_.2, 0, none⟩))]) (fun s_ w' => (w'.cell? ⟨gb110, 0, none⟩ = some (.int .i64 a0_0) ∧ w'.cell? ⟨gb110, 1, none⟩ = some (.int .i64 a0_1) ∧ w'.cell? ⟨gb111, 0, none⟩ = some (.int .i64 a1_0) ∧ w'.cell? ⟨gb111, 1, none⟩ = some (.int .i64 a1_1)) ∧ (w'.heap[gb110]? = some (.cells #[.int .i64 a0_0, .int .i64 a0_1] 25 (0, 0))) ∧ (w'.heap[gb111]? = some (.cells #[.int .i64 a1_0, .int .i64 a1_1] 25 (0, 0))) ∧ (w'.heap[gb112]? = some (.cells #[.int .i64 0, .int .i64 0] 25 (0, 0))) ∧ (w'.heap[s_.1]? = some (.cells #[.int .i64 0, .int .i64 0] 25 (0, 0))) ∧ (w'.heap[s_.2]? = some (.cells #[.int .i64 0, .int .i64 0] 25 (0, 0))) ∧ (w.heap.size ≤ s_.1) ∧ (w.heap.size ≤ s_.1) ∧ (gb110 ≠ s_.1) ∧ (s_.1 ≠ gb110) ∧ (gb111 ≠ s_.1) ∧ (s_.1 ≠ gb111) ∧ (gb112 ≠ s_.1) ∧ (s_.1 ≠ gb112) ∧ (s_.2 ≠ s_.1) ∧ (s_.1 ≠ s_.2) ∧ (w.heap.size ≤ s_.2) ∧ (w.heap.size ≤ s_.2) ∧ (gb110 ≠ s_.2) ∧ (s_.2 ≠ gb110) ∧ (gb111 ≠ s_.2) ∧ (s_.2 ≠ gb111) ∧ (gb112 ≠ s_.2) ∧ (s_.2 ≠ gb112) ∧ (Below w.heap.size w w')) ?_ ?_
        rotate_left
        ·intro hJ10_11
         refine join_ (σ := Unit) 5 #[true, true, true, true, true, true, true, true, true, false, false, false, false, false] (fun s_ => [(11, .agg #[.int .i64 t113, .int .i64 t114])]) (fun s_ w' => (w'.cell? ⟨gb110, 0, none⟩ = some (.int .i64 a0_0) ∧ w'.cell? ⟨gb110, 1, none⟩ = some (.int .i64 a0_1) ∧ w'.cell? ⟨gb111, 0, none⟩ = some (.int .i64 a1_0) ∧ w'.cell? ⟨gb111, 1, none⟩ = some (.int .i64 a1_1)) ∧ (w'.heap[gb110]? = some (.cells #[.int .i64 a0_0, .int .i64 a0_1] 25 (0, 0))) ∧ (w'.heap[gb111]? = some (.cells #[.int .i64 a1_0, .int .i64 a1_1] 25 (0, 0))) ∧ (w'.heap[gb112]? = some (.cells #[.int .i64 0, .int .i64 0] 25 (0, 0))) ∧ (Below w.heap.size w w')) ?_ ?_
         rotate_left
         ·intro hJ4
          refine join_ (σ := Nat) 5 #[true, true, true, true, false, true, true, true, true, false, true, false, false, false] (fun s_ => [(5, .pointer (some ⟨s_, 0, none⟩))]) (fun s_ w' => (w'.cell? ⟨gb110, 0, none⟩ = some (.int .i64 a0_0) ∧ w'.cell? ⟨gb110, 1, none⟩ = some (.int .i64 a0_1) ∧ w'.cell? ⟨gb111, 0, none⟩ = some (.int .i64 a1_0) ∧ w'.cell? ⟨gb111, 1, none⟩ = some (.int .i64 a1_1)) ∧ (w'.heap[gb110]? = some (.cells #[.int .i64 a0_0, .int .i64 a0_1] 25 (0, 0))) ∧ (w'.heap[gb111]? = some (.cells #[.int .i64 a1_0, .int .i64 a1_1] 25 (0, 0))) ∧ (w'.heap[gb112]? = some (.cells #[.int .i64 0, .int .i64 0] 25 (0, 0))) ∧ (w'.heap[s_]? = some (.cells #[.int .i64 0, .int .i64 0] 25 (0, 0))) ∧ (w.heap.size ≤ s_) ∧ (w.heap.size ≤ s_) ∧ (gb110 ≠ s_) ∧ (s_ ≠ gb110) ∧ (gb111 ≠ s_) ∧ (s_ ≠ gb111) ∧ (gb112 ≠ s_) ∧ (s_ ≠ gb112) ∧ (Below w.heap.size w w')) ?_ ?_
          rotate_left
          ·intro hJ10
           refine join_ (σ := Nat) 5 #[true, true, true, true, false, true, true, true, true, false, false, true, false, false] (fun s_ => [(6, .pointer (some ⟨s_, 0, none⟩))]) (fun s_ w' => (w'.cell? ⟨gb110, 0, none⟩ = some (.int .i64 a0_0) ∧ w'.cell? ⟨gb110, 1, none⟩ = some (.int .i64 a0_1) ∧ w'.cell? ⟨gb111, 0, none⟩ = some (.int .i64 a1_0) ∧ w'.cell? ⟨gb111, 1, none⟩ = some (.int .i64 a1_1)) ∧ (w'.heap[gb110]? = some (.cells #[.int .i64 a0_0, .int .i64 a0_1] 25 (0, 0))) ∧ (w'.heap[gb111]? = some (.cells #[.int .i64 a1_0, .int .i64 a1_1] 25 (0, 0))) ∧ (w'.heap[gb112]? = some (.cells #[.int .i64 0, .int .i64 0] 25 (0, 0))) ∧ (w'.heap[s_]? = some (.cells #[.int .i64 0, .int .i64 0] 25 (0, 0))) ∧ (w.heap.size ≤ s_) ∧ (w.heap.size ≤ s_) ∧ (gb110 ≠ s_) ∧ (s_ ≠ gb110) ∧ (gb111 ≠ s_) ∧ (s_ ≠ gb111) ∧ (gb112 ≠ s_) ∧ (s_ ≠ gb112) ∧ (Below w.heap.size w w')) ?_ ?_
           rotate_left
           ·intro hJ11
            refine three_ (i := 4) (j := 10) (k := 11) (Ni := some 11) (Nj := some 5) (Nk := some 6) #[true, true, true, true, true, true, true, true, true, false, false, false, false, false] #[true, true, true, true, false, true, true, true, true, false, true, false, false, false] #[true, true, true, true, false, true, true, true, true, false, false, true, false, false] rfl rfl rfl rfl rfl rfl (three_of HT_.out (by kernel_rfl)) (by decide) (by decide) (by decide) (fun K hK => ?_) (fun K hK => ?_) (fun K hK => ?_)
            ·skip
             refine goes_ Try.func52 (by kernel_rfl) rfl #[.int .i64 a0_0, .int .i64 a1_1] (by rfl) rfl rfl al_ ?_
             with_reducible refine (packets_frac.calls k a0_0 a1_1 t113 t114 _ A3.out).mono ?_
             rintro e w9 ⟨rfl, hb⟩
             refine ⟨_, rfl, ?_⟩
             have n0_ := Aside0.mk (bkb_ BK110.out hb)
             have n1_ := Aside0.mk (bkb_ BK111.out hb)
             have n2_ := Aside0.mk (bkb_ BK112.out hb)
             have n3_ := Aside0.mk (below_step (hb_ HB.out) hb)
             clear BK110
             clear BK111
             clear BK112
             clear HB
             have BK110 := n0_
             have BK111 := n1_
             have BK112 := n2_
             have HB := n3_
             clear n0_ n1_ n2_ n3_
             (try clear hb)
             (try clear hb2)
             (try clear hk)
             (try clear hi)
             refine hK.out _ _ ⟨(blk_cell BK110.out 0).trans rfl, (blk_cell BK110.out 1).trans rfl, (blk_cell BK111.out 0).trans rfl, (blk_cell BK111.out 1).trans rfl⟩ (fun hHeld => ?_)
             clear hK K
             refine norm_ (a' := ?_) ?_ ?_
             rotate_left
             ·show Act.put _ (some 11) _ = _
              simp only [Act.put, List.setIfInBounds_toArray, List.set_cons_zero, List.set_cons_succ, i64_w, i32_w]
              rfl
             exact norm_ (by first | (simp only [putAll, Act.put, List.setIfInBounds_toArray, List.set_cons_zero, List.set_cons_succ]; done) | (simp only [putAll, Act.put, List.setIfInBounds_toArray, List.set_cons_zero, List.set_cons_succ]; rfl)) (hJ4 () _ ⟨hHeld, (bk_ BK110.out), (bk_ BK111.out), (bk_ BK112.out), (hb_ HB.out)⟩)
            ·skip
             refine box_step ?hg (N := 5) ?hd (cs := #[.int .i64 0, .int .i64 0]) (t := 25) ?hr ?_; (case hd => rfl); (case hg => rfl); (case hr => first | (go_simp; done) | (go_simp; rfl))
             intro gb117 hg w9 hbox hb
             have n0_ := Aside0.mk (bkb_ BK110.out hb)
             have n1_ := Aside0.mk (bkb_ BK111.out hb)
             have n2_ := Aside0.mk (bkb_ BK112.out hb)
             have n3_ := Aside0.mk (below_step (hb_ HB.out) hb)
             have n4_ := Aside0.mk (hbox)
             have n5_ := Aside0.mk ((by rw [hg]; exact (below_size (hb_ HB.out)) : w.heap.size ≤ gb117))
             have n6_ := Aside0.mk ((by rw [hg]; exact (below_size (hb_ HB.out)) : w.heap.size ≤ gb117))
             have n7_ := Aside0.mk ((by rw [hg]; exact Nat.ne_of_lt (bkl_ BK110.out) : gb110 ≠ gb117))
             have n8_ := Aside0.mk ((by rw [hg]; exact Nat.ne_of_gt (bkl_ BK110.out) : gb117 ≠ gb110))
             have n9_ := Aside0.mk ((by rw [hg]; exact Nat.ne_of_lt (bkl_ BK111.out) : gb111 ≠ gb117))
             have n10_ := Aside0.mk ((by rw [hg]; exact Nat.ne_of_gt (bkl_ BK111.out) : gb117 ≠ gb111))
             have n11_ := Aside0.mk ((by rw [hg]; exact Nat.ne_of_lt (bkl_ BK112.out) : gb112 ≠ gb117))
             have n12_ := Aside0.mk ((by rw [hg]; exact Nat.ne_of_gt (bkl_ BK112.out) : gb117 ≠ gb112))
             clear BK110
             clear BK111
             clear BK112
             clear HB
             have BK110 := n0_
             have BK111 := n1_
             have BK112 := n2_
             have HB := n3_
             have BK117 := n4_
             have GW117 := n5_
             have GE117 := n6_
             have NB110_117 := n7_
             have NB117_110 := n8_
             have NB111_117 := n9_
             have NB117_111 := n10_
             have NB112_117 := n11_
             have NB117_112 := n12_
             clear n0_ n1_ n2_ n3_ n4_ n5_ n6_ n7_ n8_ n9_ n10_ n11_ n12_
             clear hb hbox hg
             refine hK.out _ _ ⟨(blk_cell BK110.out 0).trans rfl, (blk_cell BK110.out 1).trans rfl, (blk_cell BK111.out 0).trans rfl, (blk_cell BK111.out 1).trans rfl⟩ (fun hHeld => ?_)
             clear hK K
             refine norm_ (a' := ?_) ?_ ?_
             rotate_left
             ·show Act.put _ (some 5) _ = _
              simp only [Act.put, List.setIfInBounds_toArray, List.set_cons_zero, List.set_cons_succ, i64_w, i32_w]
              rfl
             exact norm_ (by first | (simp only [putAll, Act.put, List.setIfInBounds_toArray, List.set_cons_zero, List.set_cons_succ]; done) | (simp only [putAll, Act.put, List.setIfInBounds_toArray, List.set_cons_zero, List.set_cons_succ]; rfl)) (hJ10 (gb117) _ ⟨hHeld, (bk_ BK110.out), (bk_ BK111.out), (bk_ BK112.out), (bk_ BK117.out), GW117.out, GE117.out, NB110_117.out, NB117_110.out, NB111_117.out, NB117_111.out, NB112_117.out, NB117_112.out, (hb_ HB.out)⟩)
            ·skip
             refine box_step ?hg (N := 6) ?hd (cs := #[.int .i64 0, .int .i64 0]) (t := 25) ?hr ?_; (case hd => rfl); (case hg => rfl); (case hr => first | (go_simp; done) | (go_simp; rfl))
             intro gb118 hg w9 hbox hb
             have n0_ := Aside0.mk (bkb_ BK110.out hb)
             have n1_ := Aside0.mk (bkb_ BK111.out hb)
             have n2_ := Aside0.mk (bkb_ BK112.out hb)
             have n3_ := Aside0.mk (below_step (hb_ HB.out) hb)
             have n4_ := Aside0.mk (hbox)
             have n5_ := Aside0.mk ((by rw [hg]; exact (below_size (hb_ HB.out)) : w.heap.size ≤ gb118))
             have n6_ := Aside0.mk ((by rw [hg]; exact (below_size (hb_ HB.out)) : w.heap.size ≤ gb118))
             have n7_ := Aside0.mk ((by rw [hg]; exact Nat.ne_of_lt (bkl_ BK110.out) : gb110 ≠ gb118))
             have n8_ := Aside0.mk ((by rw [hg]; exact Nat.ne_of_gt (bkl_ BK110.out) : gb118 ≠ gb110))
             have n9_ := Aside0.mk ((by rw [hg]; exact Nat.ne_of_lt (bkl_ BK111.out) : gb111 ≠ gb118))
             have n10_ := Aside0.mk ((by rw [hg]; exact Nat.ne_of_gt (bkl_ BK111.out) : gb118 ≠ gb111))
             have n11_ := Aside0.mk ((by rw [hg]; exact Nat.ne_of_lt (bkl_ BK112.out) : gb112 ≠ gb118))
             have n12_ := Aside0.mk ((by rw [hg]; exact Nat.ne_of_gt (bkl_ BK112.out) : gb118 ≠ gb112))
             clear BK110
             clear BK111
             clear BK112
             clear HB
             have BK110 := n0_
             have BK111 := n1_
             have BK112 := n2_
             have HB := n3_
             have BK118 := n4_
             have GW118 := n5_
             have GE118 := n6_
             have NB110_118 := n7_
             have NB118_110 := n8_
             have NB111_118 := n9_
             have NB118_111 := n10_
             have NB112_118 := n11_
             have NB118_112 := n12_
             clear n0_ n1_ n2_ n3_ n4_ n5_ n6_ n7_ n8_ n9_ n10_ n11_ n12_
             clear hb hbox hg
             refine hK.out _ _ ⟨(blk_cell BK110.out 0).trans rfl, (blk_cell BK110.out 1).trans rfl, (blk_cell BK111.out 0).trans rfl, (blk_cell BK111.out 1).trans rfl⟩ (fun hHeld => ?_)
             clear hK K
             refine norm_ (a' := ?_) ?_ ?_
             rotate_left
             ·show Act.put _ (some 6) _ = _
              simp only [Act.put, List.setIfInBounds_toArray, List.set_cons_zero, List.set_cons_succ, i64_w, i32_w]
              rfl
             exact norm_ (by first | (simp only [putAll, Act.put, List.setIfInBounds_toArray, List.set_cons_zero, List.set_cons_succ]; done) | (simp only [putAll, Act.put, List.setIfInBounds_toArray, List.set_cons_zero, List.set_cons_succ]; rfl)) (hJ11 (gb118) _ ⟨hHeld, (bk_ BK110.out), (bk_ BK111.out), (bk_ BK112.out), (bk_ BK118.out), GW118.out, GE118.out, NB110_118.out, NB118_110.out, NB111_118.out, NB118_111.out, NB112_118.out, NB118_112.out, (hb_ HB.out)⟩)
           ·skip
            rintro gb118 w10 ⟨hS_, h0_, h1_, h2_, h3_, h4_, h5_, h6_, h7_, h8_, h9_, h10_, h11_, h12_⟩
            have n0_ : Aside0 (w10.heap[gb110]? = some (.cells #[.int .i64 a0_0, .int .i64 a0_1] 25 (0, 0))) := ⟨h0_⟩
            have n1_ : Aside0 (w10.heap[gb111]? = some (.cells #[.int .i64 a1_0, .int .i64 a1_1] 25 (0, 0))) := ⟨h1_⟩
            have n2_ : Aside0 (w10.heap[gb112]? = some (.cells #[.int .i64 0, .int .i64 0] 25 (0, 0))) := ⟨h2_⟩
            have n3_ : Aside0 (w10.heap[gb118]? = some (.cells #[.int .i64 0, .int .i64 0] 25 (0, 0))) := ⟨h3_⟩
            have n4_ : Aside0 (w.heap.size ≤ gb118) := ⟨h4_⟩
            have n5_ : Aside0 (w.heap.size ≤ gb118) := ⟨h5_⟩
            have n6_ : Aside0 (gb110 ≠ gb118) := ⟨h6_⟩
            have n7_ : Aside0 (gb118 ≠ gb110) := ⟨h7_⟩
            have n8_ : Aside0 (gb111 ≠ gb118) := ⟨h8_⟩
            have n9_ : Aside0 (gb118 ≠ gb111) := ⟨h9_⟩
            have n10_ : Aside0 (gb112 ≠ gb118) := ⟨h10_⟩
            have n11_ : Aside0 (gb118 ≠ gb112) := ⟨h11_⟩
            have n12_ : Aside0 (Below w.heap.size w w10) := ⟨h12_⟩
            clear BK110
            clear BK111
            clear BK112
            clear HB
            clear h0_ h1_ h2_ h3_ h4_ h5_ h6_ h7_ h8_ h9_ h10_ h11_ h12_
            have BK110 := n0_
            have BK111 := n1_
            have BK112 := n2_
            have BK118 := n3_
            have GW118 := n4_
            have GE118 := n5_
            have NB110_118 := n6_
            have NB118_110 := n7_
            have NB111_118 := n8_
            have NB118_111 := n9_
            have NB112_118 := n10_
            have NB118_112 := n11_
            have HB := n12_
            clear n0_ n1_ n2_ n3_ n4_ n5_ n6_ n7_ n8_ n9_ n10_ n11_ n12_
            have hHeld : w10.cell? ⟨gb110, 0, none⟩ = some (.int .i64 a0_0) ∧ w10.cell? ⟨gb110, 1, none⟩ = some (.int .i64 a0_1) ∧ w10.cell? ⟨gb111, 0, none⟩ = some (.int .i64 a1_0) ∧ w10.cell? ⟨gb111, 1, none⟩ = some (.int .i64 a1_1) := hS_
            refine norm_ (a' := ?_) ?_ ?_
            rotate_left
            ·simp only [putAll, Act.put, List.setIfInBounds_toArray, List.set_cons_zero, List.set_cons_succ]
             rfl
            refine two_ (i := 4) (j := 10) (Ni := some 11) (Nj := some 5) #[true, true, true, true, true, true, true, true, true, false, false, true, false, false] #[true, true, true, true, false, true, true, true, true, false, true, true, false, false] rfl rfl rfl rfl (two_of HT_.out (by kernel_rfl)) (by decide) (by decide) (fun K hK => ?_) (fun K hK => ?_)
            ·skip
             refine goes_ Try.func52 (by kernel_rfl) rfl #[.int .i64 a0_0, .int .i64 a1_1] (by rfl) rfl rfl al_ ?_
             with_reducible refine (packets_frac.calls k a0_0 a1_1 t113 t114 _ A3.out).mono ?_
             rintro e w11 ⟨rfl, hb⟩
             refine ⟨_, rfl, ?_⟩
             have n0_ := Aside0.mk (bkb_ BK110.out hb)
             have n1_ := Aside0.mk (bkb_ BK111.out hb)
             have n2_ := Aside0.mk (bkb_ BK112.out hb)
             have n3_ := Aside0.mk (bkb_ BK118.out hb)
             have n4_ := Aside0.mk (below_step (hb_ HB.out) hb)
             clear BK110
             clear BK111
             clear BK112
             clear BK118
             clear HB
             have BK110 := n0_
             have BK111 := n1_
             have BK112 := n2_
             have BK118 := n3_
             have HB := n4_
             clear n0_ n1_ n2_ n3_ n4_
             (try clear hb)
             (try clear hb2)
             (try clear hk)
             (try clear hi)
             refine hK.out _ _ ⟨(blk_cell BK110.out 0).trans rfl, (blk_cell BK110.out 1).trans rfl, (blk_cell BK111.out 0).trans rfl, (blk_cell BK111.out 1).trans rfl⟩ (fun hHeld => ?_)
             clear hK K
             refine norm_ (a' := ?_) ?_ ?_
             rotate_left
             ·show Act.put _ (some 11) _ = _
              simp only [Act.put, List.setIfInBounds_toArray, List.set_cons_zero, List.set_cons_succ, i64_w, i32_w]
              rfl
             exact norm_ (by first | (simp only [putAll, Act.put, List.setIfInBounds_toArray, List.set_cons_zero, List.set_cons_succ]; done) | (simp only [putAll, Act.put, List.setIfInBounds_toArray, List.set_cons_zero, List.set_cons_succ]; rfl)) (hJ4_11 (gb118) _ ⟨hHeld, (bk_ BK110.out), (bk_ BK111.out), (bk_ BK112.out), (bk_ BK118.out), GW118.out, GE118.out, NB110_118.out, NB118_110.out, NB111_118.out, NB118_111.out, NB112_118.out, NB118_112.out, (hb_ HB.out)⟩)
            ·skip
             refine box_step ?hg (N := 5) ?hd (cs := #[.int .i64 0, .int .i64 0]) (t := 25) ?hr ?_; (case hd => rfl); (case hg => rfl); (case hr => first | (go_simp; done) | (go_simp; rfl))
             intro gb117 hg w11 hbox hb
             have n0_ := Aside0.mk (bkb_ BK110.out hb)
             have n1_ := Aside0.mk (bkb_ BK111.out hb)
             have n2_ := Aside0.mk (bkb_ BK112.out hb)
             have n3_ := Aside0.mk (bkb_ BK118.out hb)
             have n4_ := Aside0.mk (below_step (hb_ HB.out) hb)
             have n5_ := Aside0.mk (hbox)
             have n6_ := Aside0.mk ((by rw [hg]; exact (below_size (hb_ HB.out)) : w.heap.size ≤ gb117))
             have n7_ := Aside0.mk ((by rw [hg]; exact (below_size (hb_ HB.out)) : w.heap.size ≤ gb117))
             have n8_ := Aside0.mk ((by rw [hg]; exact Nat.ne_of_lt (bkl_ BK110.out) : gb110 ≠ gb117))
             have n9_ := Aside0.mk ((by rw [hg]; exact Nat.ne_of_gt (bkl_ BK110.out) : gb117 ≠ gb110))
             have n10_ := Aside0.mk ((by rw [hg]; exact Nat.ne_of_lt (bkl_ BK111.out) : gb111 ≠ gb117))
             have n11_ := Aside0.mk ((by rw [hg]; exact Nat.ne_of_gt (bkl_ BK111.out) : gb117 ≠ gb111))
             have n12_ := Aside0.mk ((by rw [hg]; exact Nat.ne_of_lt (bkl_ BK112.out) : gb112 ≠ gb117))
             have n13_ := Aside0.mk ((by rw [hg]; exact Nat.ne_of_gt (bkl_ BK112.out) : gb117 ≠ gb112))
             have n14_ := Aside0.mk ((by rw [hg]; exact Nat.ne_of_lt (bkl_ BK118.out) : gb118 ≠ gb117))
             have n15_ := Aside0.mk ((by rw [hg]; exact Nat.ne_of_gt (bkl_ BK118.out) : gb117 ≠ gb118))
             clear BK110
             clear BK111
             clear BK112
             clear BK118
             clear HB
             have BK110 := n0_
             have BK111 := n1_
             have BK112 := n2_
             have BK118 := n3_
             have HB := n4_
             have BK117 := n5_
             have GW117 := n6_
             have GE117 := n7_
             have NB110_117 := n8_
             have NB117_110 := n9_
             have NB111_117 := n10_
             have NB117_111 := n11_
             have NB112_117 := n12_
             have NB117_112 := n13_
             have NB118_117 := n14_
             have NB117_118 := n15_
             clear n0_ n1_ n2_ n3_ n4_ n5_ n6_ n7_ n8_ n9_ n10_ n11_ n12_ n13_ n14_ n15_
             clear hb hbox hg
             refine hK.out _ _ ⟨(blk_cell BK110.out 0).trans rfl, (blk_cell BK110.out 1).trans rfl, (blk_cell BK111.out 0).trans rfl, (blk_cell BK111.out 1).trans rfl⟩ (fun hHeld => ?_)
             clear hK K
             refine norm_ (a' := ?_) ?_ ?_
             rotate_left
             ·show Act.put _ (some 5) _ = _
              simp only [Act.put, List.setIfInBounds_toArray, List.set_cons_zero, List.set_cons_succ, i64_w, i32_w]
              rfl
             exact norm_ (by first | (simp only [putAll, Act.put, List.setIfInBounds_toArray, List.set_cons_zero, List.set_cons_succ]; done) | (simp only [putAll, Act.put, List.setIfInBounds_toArray, List.set_cons_zero, List.set_cons_succ]; rfl)) (hJ10_11 (gb117, gb118) _ ⟨hHeld, (bk_ BK110.out), (bk_ BK111.out), (bk_ BK112.out), (bk_ BK117.out), (bk_ BK118.out), GW117.out, GE117.out, NB110_117.out, NB117_110.out, NB111_117.out, NB117_111.out, NB112_117.out, NB117_112.out, NB118_117.out, NB117_118.out, GW118.out, GE118.out, NB110_118.out, NB118_110.out, NB111_118.out, NB118_111.out, NB112_118.out, NB118_112.out, (hb_ HB.out)⟩)
          ·skip
           rintro gb117 w10 ⟨hS_, h0_, h1_, h2_, h3_, h4_, h5_, h6_, h7_, h8_, h9_, h10_, h11_, h12_⟩
           have n0_ : Aside0 (w10.heap[gb110]? = some (.cells #[.int .i64 a0_0, .int .i64 a0_1] 25 (0, 0))) := ⟨h0_⟩
           have n1_ : Aside0 (w10.heap[gb111]? = some (.cells #[.int .i64 a1_0, .int .i64 a1_1] 25 (0, 0))) := ⟨h1_⟩
           have n2_ : Aside0 (w10.heap[gb112]? = some (.cells #[.int .i64 0, .int .i64 0] 25 (0, 0))) := ⟨h2_⟩
           have n3_ : Aside0 (w10.heap[gb117]? = some (.cells #[.int .i64 0, .int .i64 0] 25 (0, 0))) := ⟨h3_⟩
           have n4_ : Aside0 (w.heap.size ≤ gb117) := ⟨h4_⟩
           have n5_ : Aside0 (w.heap.size ≤ gb117) := ⟨h5_⟩
           have n6_ : Aside0 (gb110 ≠ gb117) := ⟨h6_⟩
           have n7_ : Aside0 (gb117 ≠ gb110) := ⟨h7_⟩
           have n8_ : Aside0 (gb111 ≠ gb117) := ⟨h8_⟩
           have n9_ : Aside0 (gb117 ≠ gb111) := ⟨h9_⟩
           have n10_ : Aside0 (gb112 ≠ gb117) := ⟨h10_⟩
           have n11_ : Aside0 (gb117 ≠ gb112) := ⟨h11_⟩
           have n12_ : Aside0 (Below w.heap.size w w10) := ⟨h12_⟩
           clear BK110
           clear BK111
           clear BK112
           clear HB
           clear h0_ h1_ h2_ h3_ h4_ h5_ h6_ h7_ h8_ h9_ h10_ h11_ h12_
           have BK110 := n0_
           have BK111 := n1_
           have BK112 := n2_
           have BK117 := n3_
           have GW117 := n4_
           have GE117 := n5_
           have NB110_117 := n6_
           have NB117_110 := n7_
           have NB111_117 := n8_
           have NB117_111 := n9_
           have NB112_117 := n10_
           have NB117_112 := n11_
           have HB := n12_
           clear n0_ n1_ n2_ n3_ n4_ n5_ n6_ n7_ n8_ n9_ n10_ n11_ n12_
           have hHeld : w10.cell? ⟨gb110, 0, none⟩ = some (.int .i64 a0_0) ∧ w10.cell? ⟨gb110, 1, none⟩ = some (.int .i64 a0_1) ∧ w10.cell? ⟨gb111, 0, none⟩ = some (.int .i64 a1_0) ∧ w10.cell? ⟨gb111, 1, none⟩ = some (.int .i64 a1_1) := hS_
           refine norm_ (a' := ?_) ?_ ?_
           rotate_left
           ·simp only [putAll, Act.put, List.setIfInBounds_toArray, List.set_cons_zero, List.set_cons_succ]
            rfl
           refine two_ (i := 4) (j := 11) (Ni := some 11) (Nj := some 6) #[true, true, true, true, true, true, true, true, true, false, true, false, false, false] #[true, true, true, true, false, true, true, true, true, false, true, true, false, false] rfl rfl rfl rfl (two_of HT_.out (by kernel_rfl)) (by decide) (by decide) (fun K hK => ?_) (fun K hK => ?_)
           ·skip
            refine goes_ Try.func52 (by kernel_rfl) rfl #[.int .i64 a0_0, .int .i64 a1_1] (by rfl) rfl rfl al_ ?_
            with_reducible refine (packets_frac.calls k a0_0 a1_1 t113 t114 _ A3.out).mono ?_
            rintro e w11 ⟨rfl, hb⟩
            refine ⟨_, rfl, ?_⟩
            have n0_ := Aside0.mk (bkb_ BK110.out hb)
            have n1_ := Aside0.mk (bkb_ BK111.out hb)
            have n2_ := Aside0.mk (bkb_ BK112.out hb)
            have n3_ := Aside0.mk (bkb_ BK117.out hb)
            have n4_ := Aside0.mk (below_step (hb_ HB.out) hb)
            clear BK110
            clear BK111
            clear BK112
            clear BK117
            clear HB
            have BK110 := n0_
            have BK111 := n1_
            have BK112 := n2_
            have BK117 := n3_
            have HB := n4_
            clear n0_ n1_ n2_ n3_ n4_
            (try clear hb)
            (try clear hb2)
            (try clear hk)
            (try clear hi)
            refine hK.out _ _ ⟨(blk_cell BK110.out 0).trans rfl, (blk_cell BK110.out 1).trans rfl, (blk_cell BK111.out 0).trans rfl, (blk_cell BK111.out 1).trans rfl⟩ (fun hHeld => ?_)
            clear hK K
            refine norm_ (a' := ?_) ?_ ?_
            rotate_left
            ·show Act.put _ (some 11) _ = _
             simp only [Act.put, List.setIfInBounds_toArray, List.set_cons_zero, List.set_cons_succ, i64_w, i32_w]
             rfl
            exact norm_ (by first | (simp only [putAll, Act.put, List.setIfInBounds_toArray, List.set_cons_zero, List.set_cons_succ]; done) | (simp only [putAll, Act.put, List.setIfInBounds_toArray, List.set_cons_zero, List.set_cons_succ]; rfl)) (hJ4_10 (gb117) _ ⟨hHeld, (bk_ BK110.out), (bk_ BK111.out), (bk_ BK112.out), (bk_ BK117.out), GW117.out, GE117.out, NB110_117.out, NB117_110.out, NB111_117.out, NB117_111.out, NB112_117.out, NB117_112.out, (hb_ HB.out)⟩)
           ·skip
            refine box_step ?hg (N := 6) ?hd (cs := #[.int .i64 0, .int .i64 0]) (t := 25) ?hr ?_; (case hd => rfl); (case hg => rfl); (case hr => first | (go_simp; done) | (go_simp; rfl))
            intro gb118 hg w11 hbox hb
            have n0_ := Aside0.mk (bkb_ BK110.out hb)
            have n1_ := Aside0.mk (bkb_ BK111.out hb)
            have n2_ := Aside0.mk (bkb_ BK112.out hb)
            have n3_ := Aside0.mk (bkb_ BK117.out hb)
            have n4_ := Aside0.mk (below_step (hb_ HB.out) hb)
            have n5_ := Aside0.mk (hbox)
            have n6_ := Aside0.mk ((by rw [hg]; exact (below_size (hb_ HB.out)) : w.heap.size ≤ gb118))
            have n7_ := Aside0.mk ((by rw [hg]; exact (below_size (hb_ HB.out)) : w.heap.size ≤ gb118))
            have n8_ := Aside0.mk ((by rw [hg]; exact Nat.ne_of_lt (bkl_ BK110.out) : gb110 ≠ gb118))
            have n9_ := Aside0.mk ((by rw [hg]; exact Nat.ne_of_gt (bkl_ BK110.out) : gb118 ≠ gb110))
            have n10_ := Aside0.mk ((by rw [hg]; exact Nat.ne_of_lt (bkl_ BK111.out) : gb111 ≠ gb118))
            have n11_ := Aside0.mk ((by rw [hg]; exact Nat.ne_of_gt (bkl_ BK111.out) : gb118 ≠ gb111))
            have n12_ := Aside0.mk ((by rw [hg]; exact Nat.ne_of_lt (bkl_ BK112.out) : gb112 ≠ gb118))
            have n13_ := Aside0.mk ((by rw [hg]; exact Nat.ne_of_gt (bkl_ BK112.out) : gb118 ≠ gb112))
            have n14_ := Aside0.mk ((by rw [hg]; exact Nat.ne_of_lt (bkl_ BK117.out) : gb117 ≠ gb118))
            have n15_ := Aside0.mk ((by rw [hg]; exact Nat.ne_of_gt (bkl_ BK117.out) : gb118 ≠ gb117))
            clear BK110
            clear BK111
            clear BK112
            clear BK117
            clear HB
            have BK110 := n0_
            have BK111 := n1_
            have BK112 := n2_
            have BK117 := n3_
            have HB := n4_
            have BK118 := n5_
            have GW118 := n6_
            have GE118 := n7_
            have NB110_118 := n8_
            have NB118_110 := n9_
            have NB111_118 := n10_
            have NB118_111 := n11_
            have NB112_118 := n12_
            have NB118_112 := n13_
            have NB117_118 := n14_
            have NB118_117 := n15_
            clear n0_ n1_ n2_ n3_ n4_ n5_ n6_ n7_ n8_ n9_ n10_ n11_ n12_ n13_ n14_ n15_
            clear hb hbox hg
            refine hK.out _ _ ⟨(blk_cell BK110.out 0).trans rfl, (blk_cell BK110.out 1).trans rfl, (blk_cell BK111.out 0).trans rfl, (blk_cell BK111.out 1).trans rfl⟩ (fun hHeld => ?_)
            clear hK K
            refine norm_ (a' := ?_) ?_ ?_
            rotate_left
            ·show Act.put _ (some 6) _ = _
             simp only [Act.put, List.setIfInBounds_toArray, List.set_cons_zero, List.set_cons_succ, i64_w, i32_w]
             rfl
            exact norm_ (by first | (simp only [putAll, Act.put, List.setIfInBounds_toArray, List.set_cons_zero, List.set_cons_succ]; done) | (simp only [putAll, Act.put, List.setIfInBounds_toArray, List.set_cons_zero, List.set_cons_succ]; rfl)) (hJ10_11 (gb117, gb118) _ ⟨hHeld, (bk_ BK110.out), (bk_ BK111.out), (bk_ BK112.out), (bk_ BK117.out), (bk_ BK118.out), GW117.out, GE117.out, NB110_117.out, NB117_110.out, NB111_117.out, NB117_111.out, NB112_117.out, NB117_112.out, NB118_117.out, NB117_118.out, GW118.out, GE118.out, NB110_118.out, NB118_110.out, NB111_118.out, NB118_111.out, NB112_118.out, NB118_112.out, (hb_ HB.out)⟩)
         ·skip
          rintro _ w10 ⟨hS_, h0_, h1_, h2_, h3_⟩
          have n0_ : Aside0 (w10.heap[gb110]? = some (.cells #[.int .i64 a0_0, .int .i64 a0_1] 25 (0, 0))) := ⟨h0_⟩
          have n1_ : Aside0 (w10.heap[gb111]? = some (.cells #[.int .i64 a1_0, .int .i64 a1_1] 25 (0, 0))) := ⟨h1_⟩
          have n2_ : Aside0 (w10.heap[gb112]? = some (.cells #[.int .i64 0, .int .i64 0] 25 (0, 0))) := ⟨h2_⟩
          have n3_ : Aside0 (Below w.heap.size w w10) := ⟨h3_⟩
          clear BK110
          clear BK111
          clear BK112
          clear HB
          clear h0_ h1_ h2_ h3_
          have BK110 := n0_
          have BK111 := n1_
          have BK112 := n2_
          have HB := n3_
          clear n0_ n1_ n2_ n3_
          have hHeld : w10.cell? ⟨gb110, 0, none⟩ = some (.int .i64 a0_0) ∧ w10.cell? ⟨gb110, 1, none⟩ = some (.int .i64 a0_1) ∧ w10.cell? ⟨gb111, 0, none⟩ = some (.int .i64 a1_0) ∧ w10.cell? ⟨gb111, 1, none⟩ = some (.int .i64 a1_1) := hS_
          refine norm_ (a' := ?_) ?_ ?_
          rotate_left
          ·simp only [putAll, Act.put, List.setIfInBounds_toArray, List.set_cons_zero, List.set_cons_succ]
           rfl
          refine three_ (i := 9) (j := 10) (k := 11) (Ni := some 16) (Nj := some 5) (Nk := some 6) #[true, true, true, true, true, true, true, true, true, true, false, false, false, false] #[true, true, true, true, true, true, true, true, true, false, true, false, false, false] #[true, true, true, true, true, true, true, true, true, false, false, true, false, false] rfl rfl rfl rfl rfl rfl (three_of HT_.out (by kernel_rfl)) (by decide) (by decide) (by decide) (fun K hK => ?_) (fun K hK => ?_) (fun K hK => ?_)
          ·skip
           refine goes_ Try.func52 (by kernel_rfl) rfl #[.int .i64 a1_0, .int .i64 a0_1] (by rfl) rfl rfl al_ ?_
           with_reducible refine (packets_frac.calls k a1_0 a0_1 t115 t116 _ A4.out).mono ?_
           rintro e w11 ⟨rfl, hb⟩
           refine ⟨_, rfl, ?_⟩
           have n0_ := Aside0.mk (bkb_ BK110.out hb)
           have n1_ := Aside0.mk (bkb_ BK111.out hb)
           have n2_ := Aside0.mk (bkb_ BK112.out hb)
           have n3_ := Aside0.mk (below_step (hb_ HB.out) hb)
           clear BK110
           clear BK111
           clear BK112
           clear HB
           have BK110 := n0_
           have BK111 := n1_
           have BK112 := n2_
           have HB := n3_
           clear n0_ n1_ n2_ n3_
           (try clear hb)
           (try clear hb2)
           (try clear hk)
           (try clear hi)
           refine hK.out _ _ ⟨(blk_cell BK110.out 0).trans rfl, (blk_cell BK110.out 1).trans rfl, (blk_cell BK111.out 0).trans rfl, (blk_cell BK111.out 1).trans rfl⟩ (fun hHeld => ?_)
           clear hK K
           refine norm_ (a' := ?_) ?_ ?_
           rotate_left
           ·show Act.put _ (some 16) _ = _
            simp only [Act.put, List.setIfInBounds_toArray, List.set_cons_zero, List.set_cons_succ, i64_w, i32_w]
            rfl
           exact norm_ (by first | (simp only [putAll, Act.put, List.setIfInBounds_toArray, List.set_cons_zero, List.set_cons_succ]; done) | (simp only [putAll, Act.put, List.setIfInBounds_toArray, List.set_cons_zero, List.set_cons_succ]; rfl)) (hJ4_9 () _ ⟨hHeld, (bk_ BK110.out), (bk_ BK111.out), (bk_ BK112.out), (hb_ HB.out)⟩)
          ·skip
           refine box_step ?hg (N := 5) ?hd (cs := #[.int .i64 0, .int .i64 0]) (t := 25) ?hr ?_; (case hd => rfl); (case hg => rfl); (case hr => first | (go_simp; done) | (go_simp; rfl))
           intro gb117 hg w11 hbox hb
           have n0_ := Aside0.mk (bkb_ BK110.out hb)
           have n1_ := Aside0.mk (bkb_ BK111.out hb)
           have n2_ := Aside0.mk (bkb_ BK112.out hb)
           have n3_ := Aside0.mk (below_step (hb_ HB.out) hb)
           have n4_ := Aside0.mk (hbox)
           have n5_ := Aside0.mk ((by rw [hg]; exact (below_size (hb_ HB.out)) : w.heap.size ≤ gb117))
           have n6_ := Aside0.mk ((by rw [hg]; exact (below_size (hb_ HB.out)) : w.heap.size ≤ gb117))
           have n7_ := Aside0.mk ((by rw [hg]; exact Nat.ne_of_lt (bkl_ BK110.out) : gb110 ≠ gb117))
           have n8_ := Aside0.mk ((by rw [hg]; exact Nat.ne_of_gt (bkl_ BK110.out) : gb117 ≠ gb110))
           have n9_ := Aside0.mk ((by rw [hg]; exact Nat.ne_of_lt (bkl_ BK111.out) : gb111 ≠ gb117))
           have n10_ := Aside0.mk ((by rw [hg]; exact Nat.ne_of_gt (bkl_ BK111.out) : gb117 ≠ gb111))
           have n11_ := Aside0.mk ((by rw [hg]; exact Nat.ne_of_lt (bkl_ BK112.out) : gb112 ≠ gb117))
           have n12_ := Aside0.mk ((by rw [hg]; exact Nat.ne_of_gt (bkl_ BK112.out) : gb117 ≠ gb112))
           clear BK110
           clear BK111
           clear BK112
           clear HB
           have BK110 := n0_
           have BK111 := n1_
           have BK112 := n2_
           have HB := n3_
           have BK117 := n4_
           have GW117 := n5_
           have GE117 := n6_
           have NB110_117 := n7_
           have NB117_110 := n8_
           have NB111_117 := n9_
           have NB117_111 := n10_
           have NB112_117 := n11_
           have NB117_112 := n12_
           clear n0_ n1_ n2_ n3_ n4_ n5_ n6_ n7_ n8_ n9_ n10_ n11_ n12_
           clear hb hbox hg
           refine hK.out _ _ ⟨(blk_cell BK110.out 0).trans rfl, (blk_cell BK110.out 1).trans rfl, (blk_cell BK111.out 0).trans rfl, (blk_cell BK111.out 1).trans rfl⟩ (fun hHeld => ?_)
           clear hK K
           refine norm_ (a' := ?_) ?_ ?_
           rotate_left
           ·show Act.put _ (some 5) _ = _
            simp only [Act.put, List.setIfInBounds_toArray, List.set_cons_zero, List.set_cons_succ, i64_w, i32_w]
            rfl
           exact norm_ (by first | (simp only [putAll, Act.put, List.setIfInBounds_toArray, List.set_cons_zero, List.set_cons_succ]; done) | (simp only [putAll, Act.put, List.setIfInBounds_toArray, List.set_cons_zero, List.set_cons_succ]; rfl)) (hJ4_10 (gb117) _ ⟨hHeld, (bk_ BK110.out), (bk_ BK111.out), (bk_ BK112.out), (bk_ BK117.out), GW117.out, GE117.out, NB110_117.out, NB117_110.out, NB111_117.out, NB117_111.out, NB112_117.out, NB117_112.out, (hb_ HB.out)⟩)
          ·skip
           refine box_step ?hg (N := 6) ?hd (cs := #[.int .i64 0, .int .i64 0]) (t := 25) ?hr ?_; (case hd => rfl); (case hg => rfl); (case hr => first | (go_simp; done) | (go_simp; rfl))
           intro gb118 hg w11 hbox hb
           have n0_ := Aside0.mk (bkb_ BK110.out hb)
           have n1_ := Aside0.mk (bkb_ BK111.out hb)
           have n2_ := Aside0.mk (bkb_ BK112.out hb)
           have n3_ := Aside0.mk (below_step (hb_ HB.out) hb)
           have n4_ := Aside0.mk (hbox)
           have n5_ := Aside0.mk ((by rw [hg]; exact (below_size (hb_ HB.out)) : w.heap.size ≤ gb118))
           have n6_ := Aside0.mk ((by rw [hg]; exact (below_size (hb_ HB.out)) : w.heap.size ≤ gb118))
           have n7_ := Aside0.mk ((by rw [hg]; exact Nat.ne_of_lt (bkl_ BK110.out) : gb110 ≠ gb118))
           have n8_ := Aside0.mk ((by rw [hg]; exact Nat.ne_of_gt (bkl_ BK110.out) : gb118 ≠ gb110))
           have n9_ := Aside0.mk ((by rw [hg]; exact Nat.ne_of_lt (bkl_ BK111.out) : gb111 ≠ gb118))
           have n10_ := Aside0.mk ((by rw [hg]; exact Nat.ne_of_gt (bkl_ BK111.out) : gb118 ≠ gb111))
           have n11_ := Aside0.mk ((by rw [hg]; exact Nat.ne_of_lt (bkl_ BK112.out) : gb112 ≠ gb118))
           have n12_ := Aside0.mk ((by rw [hg]; exact Nat.ne_of_gt (bkl_ BK112.out) : gb118 ≠ gb112))
           clear BK110
           clear BK111
           clear BK112
           clear HB
           have BK110 := n0_
           have BK111 := n1_
           have BK112 := n2_
           have HB := n3_
           have BK118 := n4_
           have GW118 := n5_
           have GE118 := n6_
           have NB110_118 := n7_
           have NB118_110 := n8_
           have NB111_118 := n9_
           have NB118_111 := n10_
           have NB112_118 := n11_
           have NB118_112 := n12_
           clear n0_ n1_ n2_ n3_ n4_ n5_ n6_ n7_ n8_ n9_ n10_ n11_ n12_
           clear hb hbox hg
           refine hK.out _ _ ⟨(blk_cell BK110.out 0).trans rfl, (blk_cell BK110.out 1).trans rfl, (blk_cell BK111.out 0).trans rfl, (blk_cell BK111.out 1).trans rfl⟩ (fun hHeld => ?_)
           clear hK K
           refine norm_ (a' := ?_) ?_ ?_
           rotate_left
           ·show Act.put _ (some 6) _ = _
            simp only [Act.put, List.setIfInBounds_toArray, List.set_cons_zero, List.set_cons_succ, i64_w, i32_w]
            rfl
           exact norm_ (by first | (simp only [putAll, Act.put, List.setIfInBounds_toArray, List.set_cons_zero, List.set_cons_succ]; done) | (simp only [putAll, Act.put, List.setIfInBounds_toArray, List.set_cons_zero, List.set_cons_succ]; rfl)) (hJ4_11 (gb118) _ ⟨hHeld, (bk_ BK110.out), (bk_ BK111.out), (bk_ BK112.out), (bk_ BK118.out), GW118.out, GE118.out, NB110_118.out, NB118_110.out, NB111_118.out, NB118_111.out, NB112_118.out, NB118_112.out, (hb_ HB.out)⟩)
        ·skip
         rintro ⟨gb117, gb118⟩ w11 ⟨hS_, h0_, h1_, h2_, h3_, h4_, h5_, h6_, h7_, h8_, h9_, h10_, h11_, h12_, h13_, h14_, h15_, h16_, h17_, h18_, h19_, h20_, h21_, h22_, h23_⟩
         have n0_ : Aside0 (w11.heap[gb110]? = some (.cells #[.int .i64 a0_0, .int .i64 a0_1] 25 (0, 0))) := ⟨h0_⟩
         have n1_ : Aside0 (w11.heap[gb111]? = some (.cells #[.int .i64 a1_0, .int .i64 a1_1] 25 (0, 0))) := ⟨h1_⟩
         have n2_ : Aside0 (w11.heap[gb112]? = some (.cells #[.int .i64 0, .int .i64 0] 25 (0, 0))) := ⟨h2_⟩
         have n3_ : Aside0 (w11.heap[gb117]? = some (.cells #[.int .i64 0, .int .i64 0] 25 (0, 0))) := ⟨h3_⟩
         have n4_ : Aside0 (w11.heap[gb118]? = some (.cells #[.int .i64 0, .int .i64 0] 25 (0, 0))) := ⟨h4_⟩
         have n5_ : Aside0 (w.heap.size ≤ gb117) := ⟨h5_⟩
         have n6_ : Aside0 (w.heap.size ≤ gb117) := ⟨h6_⟩
         have n7_ : Aside0 (gb110 ≠ gb117) := ⟨h7_⟩
         have n8_ : Aside0 (gb117 ≠ gb110) := ⟨h8_⟩
         have n9_ : Aside0 (gb111 ≠ gb117) := ⟨h9_⟩
         have n10_ : Aside0 (gb117 ≠ gb111) := ⟨h10_⟩
         have n11_ : Aside0 (gb112 ≠ gb117) := ⟨h11_⟩
         have n12_ : Aside0 (gb117 ≠ gb112) := ⟨h12_⟩
         have n13_ : Aside0 (gb118 ≠ gb117) := ⟨h13_⟩
         have n14_ : Aside0 (gb117 ≠ gb118) := ⟨h14_⟩
         have n15_ : Aside0 (w.heap.size ≤ gb118) := ⟨h15_⟩
         have n16_ : Aside0 (w.heap.size ≤ gb118) := ⟨h16_⟩
         have n17_ : Aside0 (gb110 ≠ gb118) := ⟨h17_⟩
         have n18_ : Aside0 (gb118 ≠ gb110) := ⟨h18_⟩
         have n19_ : Aside0 (gb111 ≠ gb118) := ⟨h19_⟩
         have n20_ : Aside0 (gb118 ≠ gb111) := ⟨h20_⟩
         have n21_ : Aside0 (gb112 ≠ gb118) := ⟨h21_⟩
         have n22_ : Aside0 (gb118 ≠ gb112) := ⟨h22_⟩
         have n23_ : Aside0 (Below w.heap.size w w11) := ⟨h23_⟩
         clear BK110
         clear BK111
         clear BK112
         clear HB
         clear h0_ h1_ h2_ h3_ h4_ h5_ h6_ h7_ h8_ h9_ h10_ h11_ h12_ h13_ h14_ h15_ h16_ h17_ h18_ h19_ h20_ h21_ h22_ h23_
         have BK110 := n0_
         have BK111 := n1_
         have BK112 := n2_
         have BK117 := n3_
         have BK118 := n4_
         have GW117 := n5_
         have GE117 := n6_
         have NB110_117 := n7_
         have NB117_110 := n8_
         have NB111_117 := n9_
         have NB117_111 := n10_
         have NB112_117 := n11_
         have NB117_112 := n12_
         have NB118_117 := n13_
         have NB117_118 := n14_
         have GW118 := n15_
         have GE118 := n16_
         have NB110_118 := n17_
         have NB118_110 := n18_
         have NB111_118 := n19_
         have NB118_111 := n20_
         have NB112_118 := n21_
         have NB118_112 := n22_
         have HB := n23_
         clear n0_ n1_ n2_ n3_ n4_ n5_ n6_ n7_ n8_ n9_ n10_ n11_ n12_ n13_ n14_ n15_ n16_ n17_ n18_ n19_ n20_ n21_ n22_ n23_
         have hHeld : w11.cell? ⟨gb110, 0, none⟩ = some (.int .i64 a0_0) ∧ w11.cell? ⟨gb110, 1, none⟩ = some (.int .i64 a0_1) ∧ w11.cell? ⟨gb111, 0, none⟩ = some (.int .i64 a1_0) ∧ w11.cell? ⟨gb111, 1, none⟩ = some (.int .i64 a1_1) := hS_
         refine norm_ (a' := ?_) ?_ ?_
         rotate_left
         ·simp only [putAll, Act.put, List.setIfInBounds_toArray, List.set_cons_zero, List.set_cons_succ]
          rfl
         refine one_ (i := 4) (N := some 11) #[true, true, true, true, true, true, true, true, true, false, true, true, false, false] rfl rfl (one_of HT_.out (by kernel_rfl)) (by decide) (fun K hK => ?_)
         refine goes_ Try.func52 (by kernel_rfl) rfl #[.int .i64 a0_0, .int .i64 a1_1] (by rfl) rfl rfl al_ ?_
         with_reducible refine (packets_frac.calls k a0_0 a1_1 t113 t114 _ A3.out).mono ?_
         rintro e w12 ⟨rfl, hb⟩
         refine ⟨_, rfl, ?_⟩
         have n0_ := Aside0.mk (bkb_ BK110.out hb)
         have n1_ := Aside0.mk (bkb_ BK111.out hb)
         have n2_ := Aside0.mk (bkb_ BK112.out hb)
         have n3_ := Aside0.mk (bkb_ BK117.out hb)
         have n4_ := Aside0.mk (bkb_ BK118.out hb)
         have n5_ := Aside0.mk (below_step (hb_ HB.out) hb)
         clear BK110
         clear BK111
         clear BK112
         clear BK117
         clear BK118
         clear HB
         have BK110 := n0_
         have BK111 := n1_
         have BK112 := n2_
         have BK117 := n3_
         have BK118 := n4_
         have HB := n5_
         clear n0_ n1_ n2_ n3_ n4_ n5_
         (try clear hb)
         (try clear hb2)
         (try clear hk)
         (try clear hi)
         refine hK.out _ _ ⟨(blk_cell BK110.out 0).trans rfl, (blk_cell BK110.out 1).trans rfl, (blk_cell BK111.out 0).trans rfl, (blk_cell BK111.out 1).trans rfl⟩ (fun hHeld => ?_)
         clear hK K
         refine norm_ (a' := ?_) ?_ ?_
         rotate_left
         ·show Act.put _ (some 11) _ = _
          simp only [Act.put, List.setIfInBounds_toArray, List.set_cons_zero, List.set_cons_succ, i64_w, i32_w]
          rfl
         exact norm_ (by first | (simp only [putAll, Act.put, List.setIfInBounds_toArray, List.set_cons_zero, List.set_cons_succ]; done) | (simp only [putAll, Act.put, List.setIfInBounds_toArray, List.set_cons_zero, List.set_cons_succ]; rfl)) (hJ4_10_11 (gb117, gb118) _ ⟨hHeld, (bk_ BK110.out), (bk_ BK111.out), (bk_ BK112.out), (bk_ BK117.out), (bk_ BK118.out), GW117.out, GE117.out, NB110_117.out, NB117_110.out, NB111_117.out, NB117_111.out, NB112_117.out, NB117_112.out, NB118_117.out, NB117_118.out, GW118.out, GE118.out, NB110_118.out, NB118_110.out, NB111_118.out, NB118_111.out, NB112_118.out, NB118_112.out, (hb_ HB.out)⟩)
       ·skip
        rintro gb118 w11 ⟨hS_, h0_, h1_, h2_, h3_, h4_, h5_, h6_, h7_, h8_, h9_, h10_, h11_, h12_⟩
        have n0_ : Aside0 (w11.heap[gb110]? = some (.cells #[.int .i64 a0_0, .int .i64 a0_1] 25 (0, 0))) := ⟨h0_⟩
        have n1_ : Aside0 (w11.heap[gb111]? = some (.cells #[.int .i64 a1_0, .int .i64 a1_1] 25 (0, 0))) := ⟨h1_⟩
        have n2_ : Aside0 (w11.heap[gb112]? = some (.cells #[.int .i64 0, .int .i64 0] 25 (0, 0))) := ⟨h2_⟩
        have n3_ : Aside0 (w11.heap[gb118]? = some (.cells #[.int .i64 0, .int .i64 0] 25 (0, 0))) := ⟨h3_⟩
        have n4_ : Aside0 (w.heap.size ≤ gb118) := ⟨h4_⟩
        have n5_ : Aside0 (w.heap.size ≤ gb118) := ⟨h5_⟩
        have n6_ : Aside0 (gb110 ≠ gb118) := ⟨h6_⟩
        have n7_ : Aside0 (gb118 ≠ gb110) := ⟨h7_⟩
        have n8_ : Aside0 (gb111 ≠ gb118) := ⟨h8_⟩
        have n9_ : Aside0 (gb118 ≠ gb111) := ⟨h9_⟩
        have n10_ : Aside0 (gb112 ≠ gb118) := ⟨h10_⟩
        have n11_ : Aside0 (gb118 ≠ gb112) := ⟨h11_⟩
        have n12_ : Aside0 (Below w.heap.size w w11) := ⟨h12_⟩
        clear BK110
        clear BK111
        clear BK112
        clear HB
        clear h0_ h1_ h2_ h3_ h4_ h5_ h6_ h7_ h8_ h9_ h10_ h11_ h12_
        have BK110 := n0_
        have BK111 := n1_
        have BK112 := n2_
        have BK118 := n3_
        have GW118 := n4_
        have GE118 := n5_
        have NB110_118 := n6_
        have NB118_110 := n7_
        have NB111_118 := n8_
        have NB118_111 := n9_
        have NB112_118 := n10_
        have NB118_112 := n11_
        have HB := n12_
        clear n0_ n1_ n2_ n3_ n4_ n5_ n6_ n7_ n8_ n9_ n10_ n11_ n12_
        have hHeld : w11.cell? ⟨gb110, 0, none⟩ = some (.int .i64 a0_0) ∧ w11.cell? ⟨gb110, 1, none⟩ = some (.int .i64 a0_1) ∧ w11.cell? ⟨gb111, 0, none⟩ = some (.int .i64 a1_0) ∧ w11.cell? ⟨gb111, 1, none⟩ = some (.int .i64 a1_1) := hS_
        refine norm_ (a' := ?_) ?_ ?_
        rotate_left
        ·simp only [putAll, Act.put, List.setIfInBounds_toArray, List.set_cons_zero, List.set_cons_succ]
         rfl
        refine two_ (i := 9) (j := 10) (Ni := some 16) (Nj := some 5) #[true, true, true, true, true, true, true, true, true, true, false, true, false, false] #[true, true, true, true, true, true, true, true, true, false, true, true, false, false] rfl rfl rfl rfl (two_of HT_.out (by kernel_rfl)) (by decide) (by decide) (fun K hK => ?_) (fun K hK => ?_)
        ·skip
         refine goes_ Try.func52 (by kernel_rfl) rfl #[.int .i64 a1_0, .int .i64 a0_1] (by rfl) rfl rfl al_ ?_
         with_reducible refine (packets_frac.calls k a1_0 a0_1 t115 t116 _ A4.out).mono ?_
         rintro e w12 ⟨rfl, hb⟩
         refine ⟨_, rfl, ?_⟩
         have n0_ := Aside0.mk (bkb_ BK110.out hb)
         have n1_ := Aside0.mk (bkb_ BK111.out hb)
         have n2_ := Aside0.mk (bkb_ BK112.out hb)
         have n3_ := Aside0.mk (bkb_ BK118.out hb)
         have n4_ := Aside0.mk (below_step (hb_ HB.out) hb)
         clear BK110
         clear BK111
         clear BK112
         clear BK118
         clear HB
         have BK110 := n0_
         have BK111 := n1_
         have BK112 := n2_
         have BK118 := n3_
         have HB := n4_
         clear n0_ n1_ n2_ n3_ n4_
         (try clear hb)
         (try clear hb2)
         (try clear hk)
         (try clear hi)
         refine hK.out _ _ ⟨(blk_cell BK110.out 0).trans rfl, (blk_cell BK110.out 1).trans rfl, (blk_cell BK111.out 0).trans rfl, (blk_cell BK111.out 1).trans rfl⟩ (fun hHeld => ?_)
         clear hK K
         refine norm_ (a' := ?_) ?_ ?_
         rotate_left
         ·show Act.put _ (some 16) _ = _
          simp only [Act.put, List.setIfInBounds_toArray, List.set_cons_zero, List.set_cons_succ, i64_w, i32_w]
          rfl
         exact norm_ (by first | (simp only [putAll, Act.put, List.setIfInBounds_toArray, List.set_cons_zero, List.set_cons_succ]; done) | (simp only [putAll, Act.put, List.setIfInBounds_toArray, List.set_cons_zero, List.set_cons_succ]; rfl)) (hJ4_9_11 (gb118) _ ⟨hHeld, (bk_ BK110.out), (bk_ BK111.out), (bk_ BK112.out), (bk_ BK118.out), GW118.out, GE118.out, NB110_118.out, NB118_110.out, NB111_118.out, NB118_111.out, NB112_118.out, NB118_112.out, (hb_ HB.out)⟩)
        ·skip
         refine box_step ?hg (N := 5) ?hd (cs := #[.int .i64 0, .int .i64 0]) (t := 25) ?hr ?_; (case hd => rfl); (case hg => rfl); (case hr => first | (go_simp; done) | (go_simp; rfl))
         intro gb117 hg w12 hbox hb
         have n0_ := Aside0.mk (bkb_ BK110.out hb)
         have n1_ := Aside0.mk (bkb_ BK111.out hb)
         have n2_ := Aside0.mk (bkb_ BK112.out hb)
         have n3_ := Aside0.mk (bkb_ BK118.out hb)
         have n4_ := Aside0.mk (below_step (hb_ HB.out) hb)
         have n5_ := Aside0.mk (hbox)
         have n6_ := Aside0.mk ((by rw [hg]; exact (below_size (hb_ HB.out)) : w.heap.size ≤ gb117))
         have n7_ := Aside0.mk ((by rw [hg]; exact (below_size (hb_ HB.out)) : w.heap.size ≤ gb117))
         have n8_ := Aside0.mk ((by rw [hg]; exact Nat.ne_of_lt (bkl_ BK110.out) : gb110 ≠ gb117))
         have n9_ := Aside0.mk ((by rw [hg]; exact Nat.ne_of_gt (bkl_ BK110.out) : gb117 ≠ gb110))
         have n10_ := Aside0.mk ((by rw [hg]; exact Nat.ne_of_lt (bkl_ BK111.out) : gb111 ≠ gb117))
         have n11_ := Aside0.mk ((by rw [hg]; exact Nat.ne_of_gt (bkl_ BK111.out) : gb117 ≠ gb111))
         have n12_ := Aside0.mk ((by rw [hg]; exact Nat.ne_of_lt (bkl_ BK112.out) : gb112 ≠ gb117))
         have n13_ := Aside0.mk ((by rw [hg]; exact Nat.ne_of_gt (bkl_ BK112.out) : gb117 ≠ gb112))
         have n14_ := Aside0.mk ((by rw [hg]; exact Nat.ne_of_lt (bkl_ BK118.out) : gb118 ≠ gb117))
         have n15_ := Aside0.mk ((by rw [hg]; exact Nat.ne_of_gt (bkl_ BK118.out) : gb117 ≠ gb118))
         clear BK110
         clear BK111
         clear BK112
         clear BK118
         clear HB
         have BK110 := n0_
         have BK111 := n1_
         have BK112 := n2_
         have BK118 := n3_
         have HB := n4_
         have BK117 := n5_
         have GW117 := n6_
         have GE117 := n7_
         have NB110_117 := n8_
         have NB117_110 := n9_
         have NB111_117 := n10_
         have NB117_111 := n11_
         have NB112_117 := n12_
         have NB117_112 := n13_
         have NB118_117 := n14_
         have NB117_118 := n15_
         clear n0_ n1_ n2_ n3_ n4_ n5_ n6_ n7_ n8_ n9_ n10_ n11_ n12_ n13_ n14_ n15_
         clear hb hbox hg
         refine hK.out _ _ ⟨(blk_cell BK110.out 0).trans rfl, (blk_cell BK110.out 1).trans rfl, (blk_cell BK111.out 0).trans rfl, (blk_cell BK111.out 1).trans rfl⟩ (fun hHeld => ?_)
         clear hK K
         refine norm_ (a' := ?_) ?_ ?_
         rotate_left
         ·show Act.put _ (some 5) _ = _
          simp only [Act.put, List.setIfInBounds_toArray, List.set_cons_zero, List.set_cons_succ, i64_w, i32_w]
          rfl
         exact norm_ (by first | (simp only [putAll, Act.put, List.setIfInBounds_toArray, List.set_cons_zero, List.set_cons_succ]; done) | (simp only [putAll, Act.put, List.setIfInBounds_toArray, List.set_cons_zero, List.set_cons_succ]; rfl)) (hJ4_10_11 (gb117, gb118) _ ⟨hHeld, (bk_ BK110.out), (bk_ BK111.out), (bk_ BK112.out), (bk_ BK117.out), (bk_ BK118.out), GW117.out, GE117.out, NB110_117.out, NB117_110.out, NB111_117.out, NB117_111.out, NB112_117.out, NB117_112.out, NB118_117.out, NB117_118.out, GW118.out, GE118.out, NB110_118.out, NB118_110.out, NB111_118.out, NB118_111.out, NB112_118.out, NB118_112.out, (hb_ HB.out)⟩)
      ·skip
       rintro gb117 w11 ⟨hS_, h0_, h1_, h2_, h3_, h4_, h5_, h6_, h7_, h8_, h9_, h10_, h11_, h12_⟩
       have n0_ : Aside0 (w11.heap[gb110]? = some (.cells #[.int .i64 a0_0, .int .i64 a0_1] 25 (0, 0))) := ⟨h0_⟩
       have n1_ : Aside0 (w11.heap[gb111]? = some (.cells #[.int .i64 a1_0, .int .i64 a1_1] 25 (0, 0))) := ⟨h1_⟩
       have n2_ : Aside0 (w11.heap[gb112]? = some (.cells #[.int .i64 0, .int .i64 0] 25 (0, 0))) := ⟨h2_⟩
       have n3_ : Aside0 (w11.heap[gb117]? = some (.cells #[.int .i64 0, .int .i64 0] 25 (0, 0))) := ⟨h3_⟩
       have n4_ : Aside0 (w.heap.size ≤ gb117) := ⟨h4_⟩
       have n5_ : Aside0 (w.heap.size ≤ gb117) := ⟨h5_⟩
       have n6_ : Aside0 (gb110 ≠ gb117) := ⟨h6_⟩
       have n7_ : Aside0 (gb117 ≠ gb110) := ⟨h7_⟩
       have n8_ : Aside0 (gb111 ≠ gb117) := ⟨h8_⟩
       have n9_ : Aside0 (gb117 ≠ gb111) := ⟨h9_⟩
       have n10_ : Aside0 (gb112 ≠ gb117) := ⟨h10_⟩
       have n11_ : Aside0 (gb117 ≠ gb112) := ⟨h11_⟩
       have n12_ : Aside0 (Below w.heap.size w w11) := ⟨h12_⟩
       clear BK110
       clear BK111
       clear BK112
       clear HB
       clear h0_ h1_ h2_ h3_ h4_ h5_ h6_ h7_ h8_ h9_ h10_ h11_ h12_
       have BK110 := n0_
       have BK111 := n1_
       have BK112 := n2_
       have BK117 := n3_
       have GW117 := n4_
       have GE117 := n5_
       have NB110_117 := n6_
       have NB117_110 := n7_
       have NB111_117 := n8_
       have NB117_111 := n9_
       have NB112_117 := n10_
       have NB117_112 := n11_
       have HB := n12_
       clear n0_ n1_ n2_ n3_ n4_ n5_ n6_ n7_ n8_ n9_ n10_ n11_ n12_
       have hHeld : w11.cell? ⟨gb110, 0, none⟩ = some (.int .i64 a0_0) ∧ w11.cell? ⟨gb110, 1, none⟩ = some (.int .i64 a0_1) ∧ w11.cell? ⟨gb111, 0, none⟩ = some (.int .i64 a1_0) ∧ w11.cell? ⟨gb111, 1, none⟩ = some (.int .i64 a1_1) := hS_
       refine norm_ (a' := ?_) ?_ ?_
       rotate_left
       ·simp only [putAll, Act.put, List.setIfInBounds_toArray, List.set_cons_zero, List.set_cons_succ]
        rfl
       refine two_ (i := 9) (j := 11) (Ni := some 16) (Nj := some 6) #[true, true, true, true, true, true, true, true, true, true, true, false, false, false] #[true, true, true, true, true, true, true, true, true, false, true, true, false, false] rfl rfl rfl rfl (two_of HT_.out (by kernel_rfl)) (by decide) (by decide) (fun K hK => ?_) (fun K hK => ?_)
       ·skip
        refine goes_ Try.func52 (by kernel_rfl) rfl #[.int .i64 a1_0, .int .i64 a0_1] (by rfl) rfl rfl al_ ?_
        with_reducible refine (packets_frac.calls k a1_0 a0_1 t115 t116 _ A4.out).mono ?_
        rintro e w12 ⟨rfl, hb⟩
        refine ⟨_, rfl, ?_⟩
        have n0_ := Aside0.mk (bkb_ BK110.out hb)
        have n1_ := Aside0.mk (bkb_ BK111.out hb)
        have n2_ := Aside0.mk (bkb_ BK112.out hb)
        have n3_ := Aside0.mk (bkb_ BK117.out hb)
        have n4_ := Aside0.mk (below_step (hb_ HB.out) hb)
        clear BK110
        clear BK111
        clear BK112
        clear BK117
        clear HB
        have BK110 := n0_
        have BK111 := n1_
        have BK112 := n2_
        have BK117 := n3_
        have HB := n4_
        clear n0_ n1_ n2_ n3_ n4_
        (try clear hb)
        (try clear hb2)
        (try clear hk)
        (try clear hi)
        refine hK.out _ _ ⟨(blk_cell BK110.out 0).trans rfl, (blk_cell BK110.out 1).trans rfl, (blk_cell BK111.out 0).trans rfl, (blk_cell BK111.out 1).trans rfl⟩ (fun hHeld => ?_)
        clear hK K
        refine norm_ (a' := ?_) ?_ ?_
        rotate_left
        ·show Act.put _ (some 16) _ = _
         simp only [Act.put, List.setIfInBounds_toArray, List.set_cons_zero, List.set_cons_succ, i64_w, i32_w]
         rfl
        exact norm_ (by first | (simp only [putAll, Act.put, List.setIfInBounds_toArray, List.set_cons_zero, List.set_cons_succ]; done) | (simp only [putAll, Act.put, List.setIfInBounds_toArray, List.set_cons_zero, List.set_cons_succ]; rfl)) (hJ4_9_10 (gb117) _ ⟨hHeld, (bk_ BK110.out), (bk_ BK111.out), (bk_ BK112.out), (bk_ BK117.out), GW117.out, GE117.out, NB110_117.out, NB117_110.out, NB111_117.out, NB117_111.out, NB112_117.out, NB117_112.out, (hb_ HB.out)⟩)
       ·skip
        refine box_step ?hg (N := 6) ?hd (cs := #[.int .i64 0, .int .i64 0]) (t := 25) ?hr ?_; (case hd => rfl); (case hg => rfl); (case hr => first | (go_simp; done) | (go_simp; rfl))
        intro gb118 hg w12 hbox hb
        have n0_ := Aside0.mk (bkb_ BK110.out hb)
        have n1_ := Aside0.mk (bkb_ BK111.out hb)
        have n2_ := Aside0.mk (bkb_ BK112.out hb)
        have n3_ := Aside0.mk (bkb_ BK117.out hb)
        have n4_ := Aside0.mk (below_step (hb_ HB.out) hb)
        have n5_ := Aside0.mk (hbox)
        have n6_ := Aside0.mk ((by rw [hg]; exact (below_size (hb_ HB.out)) : w.heap.size ≤ gb118))
        have n7_ := Aside0.mk ((by rw [hg]; exact (below_size (hb_ HB.out)) : w.heap.size ≤ gb118))
        have n8_ := Aside0.mk ((by rw [hg]; exact Nat.ne_of_lt (bkl_ BK110.out) : gb110 ≠ gb118))
        have n9_ := Aside0.mk ((by rw [hg]; exact Nat.ne_of_gt (bkl_ BK110.out) : gb118 ≠ gb110))
        have n10_ := Aside0.mk ((by rw [hg]; exact Nat.ne_of_lt (bkl_ BK111.out) : gb111 ≠ gb118))
        have n11_ := Aside0.mk ((by rw [hg]; exact Nat.ne_of_gt (bkl_ BK111.out) : gb118 ≠ gb111))
        have n12_ := Aside0.mk ((by rw [hg]; exact Nat.ne_of_lt (bkl_ BK112.out) : gb112 ≠ gb118))
        have n13_ := Aside0.mk ((by rw [hg]; exact Nat.ne_of_gt (bkl_ BK112.out) : gb118 ≠ gb112))
        have n14_ := Aside0.mk ((by rw [hg]; exact Nat.ne_of_lt (bkl_ BK117.out) : gb117 ≠ gb118))
        have n15_ := Aside0.mk ((by rw [hg]; exact Nat.ne_of_gt (bkl_ BK117.out) : gb118 ≠ gb117))
        clear BK110
        clear BK111
        clear BK112
        clear BK117
        clear HB
        have BK110 := n0_
        have BK111 := n1_
        have BK112 := n2_
        have BK117 := n3_
        have HB := n4_
        have BK118 := n5_
        have GW118 := n6_
        have GE118 := n7_
        have NB110_118 := n8_
        have NB118_110 := n9_
        have NB111_118 := n10_
        have NB118_111 := n11_
        have NB112_118 := n12_
        have NB118_112 := n13_
        have NB117_118 := n14_
        have NB118_117 := n15_
        clear n0_ n1_ n2_ n3_ n4_ n5_ n6_ n7_ n8_ n9_ n10_ n11_ n12_ n13_ n14_ n15_
        clear hb hbox hg
        refine hK.out _ _ ⟨(blk_cell BK110.out 0).trans rfl, (blk_cell BK110.out 1).trans rfl, (blk_cell BK111.out 0).trans rfl, (blk_cell BK111.out 1).trans rfl⟩ (fun hHeld => ?_)
        clear hK K
        refine norm_ (a' := ?_) ?_ ?_
        rotate_left
        ·show Act.put _ (some 6) _ = _
         simp only [Act.put, List.setIfInBounds_toArray, List.set_cons_zero, List.set_cons_succ, i64_w, i32_w]
         rfl
        exact norm_ (by first | (simp only [putAll, Act.put, List.setIfInBounds_toArray, List.set_cons_zero, List.set_cons_succ]; done) | (simp only [putAll, Act.put, List.setIfInBounds_toArray, List.set_cons_zero, List.set_cons_succ]; rfl)) (hJ4_10_11 (gb117, gb118) _ ⟨hHeld, (bk_ BK110.out), (bk_ BK111.out), (bk_ BK112.out), (bk_ BK117.out), (bk_ BK118.out), GW117.out, GE117.out, NB110_117.out, NB117_110.out, NB111_117.out, NB117_111.out, NB112_117.out, NB117_112.out, NB118_117.out, NB117_118.out, GW118.out, GE118.out, NB110_118.out, NB118_110.out, NB111_118.out, NB118_111.out, NB112_118.out, NB118_112.out, (hb_ HB.out)⟩)
     ·skip
      rintro _ w11 ⟨hS_, h0_, h1_, h2_, h3_⟩
      have n0_ : Aside0 (w11.heap[gb110]? = some (.cells #[.int .i64 a0_0, .int .i64 a0_1] 25 (0, 0))) := ⟨h0_⟩
      have n1_ : Aside0 (w11.heap[gb111]? = some (.cells #[.int .i64 a1_0, .int .i64 a1_1] 25 (0, 0))) := ⟨h1_⟩
      have n2_ : Aside0 (w11.heap[gb112]? = some (.cells #[.int .i64 0, .int .i64 0] 25 (0, 0))) := ⟨h2_⟩
      have n3_ : Aside0 (Below w.heap.size w w11) := ⟨h3_⟩
      clear BK110
      clear BK111
      clear BK112
      clear HB
      clear h0_ h1_ h2_ h3_
      have BK110 := n0_
      have BK111 := n1_
      have BK112 := n2_
      have HB := n3_
      clear n0_ n1_ n2_ n3_
      have hHeld : w11.cell? ⟨gb110, 0, none⟩ = some (.int .i64 a0_0) ∧ w11.cell? ⟨gb110, 1, none⟩ = some (.int .i64 a0_1) ∧ w11.cell? ⟨gb111, 0, none⟩ = some (.int .i64 a1_0) ∧ w11.cell? ⟨gb111, 1, none⟩ = some (.int .i64 a1_1) := hS_
      refine norm_ (a' := ?_) ?_ ?_
      rotate_left
      ·simp only [putAll, Act.put, List.setIfInBounds_toArray, List.set_cons_zero, List.set_cons_succ]
       rfl
      refine two_ (i := 10) (j := 11) (Ni := some 5) (Nj := some 6) #[true, true, true, true, true, true, true, true, true, true, true, false, false, false] #[true, true, true, true, true, true, true, true, true, true, false, true, false, false] rfl rfl rfl rfl (two_of HT_.out (by kernel_rfl)) (by decide) (by decide) (fun K hK => ?_) (fun K hK => ?_)
      ·skip
       refine box_step ?hg (N := 5) ?hd (cs := #[.int .i64 0, .int .i64 0]) (t := 25) ?hr ?_; (case hd => rfl); (case hg => rfl); (case hr => first | (go_simp; done) | (go_simp; rfl))
       intro gb117 hg w12 hbox hb
       have n0_ := Aside0.mk (bkb_ BK110.out hb)
       have n1_ := Aside0.mk (bkb_ BK111.out hb)
       have n2_ := Aside0.mk (bkb_ BK112.out hb)
       have n3_ := Aside0.mk (below_step (hb_ HB.out) hb)
       have n4_ := Aside0.mk (hbox)
       have n5_ := Aside0.mk ((by rw [hg]; exact (below_size (hb_ HB.out)) : w.heap.size ≤ gb117))
       have n6_ := Aside0.mk ((by rw [hg]; exact (below_size (hb_ HB.out)) : w.heap.size ≤ gb117))
       have n7_ := Aside0.mk ((by rw [hg]; exact Nat.ne_of_lt (bkl_ BK110.out) : gb110 ≠ gb117))
       have n8_ := Aside0.mk ((by rw [hg]; exact Nat.ne_of_gt (bkl_ BK110.out) : gb117 ≠ gb110))
       have n9_ := Aside0.mk ((by rw [hg]; exact Nat.ne_of_lt (bkl_ BK111.out) : gb111 ≠ gb117))
       have n10_ := Aside0.mk ((by rw [hg]; exact Nat.ne_of_gt (bkl_ BK111.out) : gb117 ≠ gb111))
       have n11_ := Aside0.mk ((by rw [hg]; exact Nat.ne_of_lt (bkl_ BK112.out) : gb112 ≠ gb117))
       have n12_ := Aside0.mk ((by rw [hg]; exact Nat.ne_of_gt (bkl_ BK112.out) : gb117 ≠ gb112))
       clear BK110
       clear BK111
       clear BK112
       clear HB
       have BK110 := n0_
       have BK111 := n1_
       have BK112 := n2_
       have HB := n3_
       have BK117 := n4_
       have GW117 := n5_
       have GE117 := n6_
       have NB110_117 := n7_
       have NB117_110 := n8_
       have NB111_117 := n9_
       have NB117_111 := n10_
       have NB112_117 := n11_
       have NB117_112 := n12_
       clear n0_ n1_ n2_ n3_ n4_ n5_ n6_ n7_ n8_ n9_ n10_ n11_ n12_
       clear hb hbox hg
       refine hK.out _ _ ⟨(blk_cell BK110.out 0).trans rfl, (blk_cell BK110.out 1).trans rfl, (blk_cell BK111.out 0).trans rfl, (blk_cell BK111.out 1).trans rfl⟩ (fun hHeld => ?_)
       clear hK K
       refine norm_ (a' := ?_) ?_ ?_
       rotate_left
       ·show Act.put _ (some 5) _ = _
        simp only [Act.put, List.setIfInBounds_toArray, List.set_cons_zero, List.set_cons_succ, i64_w, i32_w]
        rfl
       exact norm_ (by first | (simp only [putAll, Act.put, List.setIfInBounds_toArray, List.set_cons_zero, List.set_cons_succ]; done) | (simp only [putAll, Act.put, List.setIfInBounds_toArray, List.set_cons_zero, List.set_cons_succ]; rfl)) (hJ4_9_10 (gb117) _ ⟨hHeld, (bk_ BK110.out), (bk_ BK111.out), (bk_ BK112.out), (bk_ BK117.out), GW117.out, GE117.out, NB110_117.out, NB117_110.out, NB111_117.out, NB117_111.out, NB112_117.out, NB117_112.out, (hb_ HB.out)⟩)
      ·skip
       refine box_step ?hg (N := 6) ?hd (cs := #[.int .i64 0, .int .i64 0]) (t := 25) ?hr ?_; (case hd => rfl); (case hg => rfl); (case hr => first | (go_simp; done) | (go_simp; rfl))
       intro gb118 hg w12 hbox hb
       have n0_ := Aside0.mk (bkb_ BK110.out hb)
       have n1_ := Aside0.mk (bkb_ BK111.out hb)
       have n2_ := Aside0.mk (bkb_ BK112.out hb)
       have n3_ := Aside0.mk (below_step (hb_ HB.out) hb)
       have n4_ := Aside0.mk (hbox)
       have n5_ := Aside0.mk ((by rw [hg]; exact (below_size (hb_ HB.out)) : w.heap.size ≤ gb118))
       have n6_ := Aside0.mk ((by rw [hg]; exact (below_size (hb_ HB.out)) : w.heap.size ≤ gb118))
       have n7_ := Aside0.mk ((by rw [hg]; exact Nat.ne_of_lt (bkl_ BK110.out) : gb110 ≠ gb118))
       have n8_ := Aside0.mk ((by rw [hg]; exact Nat.ne_of_gt (bkl_ BK110.out) : gb118 ≠ gb110))
       have n9_ := Aside0.mk ((by rw [hg]; exact Nat.ne_of_lt (bkl_ BK111.out) : gb111 ≠ gb118))
       have n10_ := Aside0.mk ((by rw [hg]; exact Nat.ne_of_gt (bkl_ BK111.out) : gb118 ≠ gb111))
       have n11_ := Aside0.mk ((by rw [hg]; exact Nat.ne_of_lt (bkl_ BK112.out) : gb112 ≠ gb118))
       have n12_ := Aside0.mk ((by rw [hg]; exact Nat.ne_of_gt (bkl_ BK112.out) : gb118 ≠ gb112))
       clear BK110
       clear BK111
       clear BK112
       clear HB
       have BK110 := n0_
       have BK111 := n1_
       have BK112 := n2_
       have HB := n3_
       have BK118 := n4_
       have GW118 := n5_
       have GE118 := n6_
       have NB110_118 := n7_
       have NB118_110 := n8_
       have NB111_118 := n9_
       have NB118_111 := n10_
       have NB112_118 := n11_
       have NB118_112 := n12_
       clear n0_ n1_ n2_ n3_ n4_ n5_ n6_ n7_ n8_ n9_ n10_ n11_ n12_
       clear hb hbox hg
       refine hK.out _ _ ⟨(blk_cell BK110.out 0).trans rfl, (blk_cell BK110.out 1).trans rfl, (blk_cell BK111.out 0).trans rfl, (blk_cell BK111.out 1).trans rfl⟩ (fun hHeld => ?_)
       clear hK K
       refine norm_ (a' := ?_) ?_ ?_
       rotate_left
       ·show Act.put _ (some 6) _ = _
        simp only [Act.put, List.setIfInBounds_toArray, List.set_cons_zero, List.set_cons_succ, i64_w, i32_w]
        rfl
       exact norm_ (by first | (simp only [putAll, Act.put, List.setIfInBounds_toArray, List.set_cons_zero, List.set_cons_succ]; done) | (simp only [putAll, Act.put, List.setIfInBounds_toArray, List.set_cons_zero, List.set_cons_succ]; rfl)) (hJ4_9_11 (gb118) _ ⟨hHeld, (bk_ BK110.out), (bk_ BK111.out), (bk_ BK112.out), (bk_ BK118.out), GW118.out, GE118.out, NB110_118.out, NB118_110.out, NB111_118.out, NB118_111.out, NB112_118.out, NB118_112.out, (hb_ HB.out)⟩)
    ·skip
     rintro ⟨gb117, gb118⟩ w12 ⟨hS_, h0_, h1_, h2_, h3_, h4_, h5_, h6_, h7_, h8_, h9_, h10_, h11_, h12_, h13_, h14_, h15_, h16_, h17_, h18_, h19_, h20_, h21_, h22_, h23_⟩
     have n0_ : Aside0 (w12.heap[gb110]? = some (.cells #[.int .i64 a0_0, .int .i64 a0_1] 25 (0, 0))) := ⟨h0_⟩
     have n1_ : Aside0 (w12.heap[gb111]? = some (.cells #[.int .i64 a1_0, .int .i64 a1_1] 25 (0, 0))) := ⟨h1_⟩
     have n2_ : Aside0 (w12.heap[gb112]? = some (.cells #[.int .i64 0, .int .i64 0] 25 (0, 0))) := ⟨h2_⟩
     have n3_ : Aside0 (w12.heap[gb117]? = some (.cells #[.int .i64 0, .int .i64 0] 25 (0, 0))) := ⟨h3_⟩
     have n4_ : Aside0 (w12.heap[gb118]? = some (.cells #[.int .i64 0, .int .i64 0] 25 (0, 0))) := ⟨h4_⟩
     have n5_ : Aside0 (w.heap.size ≤ gb117) := ⟨h5_⟩
     have n6_ : Aside0 (w.heap.size ≤ gb117) := ⟨h6_⟩
     have n7_ : Aside0 (gb110 ≠ gb117) := ⟨h7_⟩
     have n8_ : Aside0 (gb117 ≠ gb110) := ⟨h8_⟩
     have n9_ : Aside0 (gb111 ≠ gb117) := ⟨h9_⟩
     have n10_ : Aside0 (gb117 ≠ gb111) := ⟨h10_⟩
     have n11_ : Aside0 (gb112 ≠ gb117) := ⟨h11_⟩
     have n12_ : Aside0 (gb117 ≠ gb112) := ⟨h12_⟩
     have n13_ : Aside0 (gb118 ≠ gb117) := ⟨h13_⟩
     have n14_ : Aside0 (gb117 ≠ gb118) := ⟨h14_⟩
     have n15_ : Aside0 (w.heap.size ≤ gb118) := ⟨h15_⟩
     have n16_ : Aside0 (w.heap.size ≤ gb118) := ⟨h16_⟩
     have n17_ : Aside0 (gb110 ≠ gb118) := ⟨h17_⟩
     have n18_ : Aside0 (gb118 ≠ gb110) := ⟨h18_⟩
     have n19_ : Aside0 (gb111 ≠ gb118) := ⟨h19_⟩
     have n20_ : Aside0 (gb118 ≠ gb111) := ⟨h20_⟩
     have n21_ : Aside0 (gb112 ≠ gb118) := ⟨h21_⟩
     have n22_ : Aside0 (gb118 ≠ gb112) := ⟨h22_⟩
     have n23_ : Aside0 (Below w.heap.size w w12) := ⟨h23_⟩
     clear BK110
     clear BK111
     clear BK112
     clear HB
     clear h0_ h1_ h2_ h3_ h4_ h5_ h6_ h7_ h8_ h9_ h10_ h11_ h12_ h13_ h14_ h15_ h16_ h17_ h18_ h19_ h20_ h21_ h22_ h23_
     have BK110 := n0_
     have BK111 := n1_
     have BK112 := n2_
     have BK117 := n3_
     have BK118 := n4_
     have GW117 := n5_
     have GE117 := n6_
     have NB110_117 := n7_
     have NB117_110 := n8_
     have NB111_117 := n9_
     have NB117_111 := n10_
     have NB112_117 := n11_
     have NB117_112 := n12_
     have NB118_117 := n13_
     have NB117_118 := n14_
     have GW118 := n15_
     have GE118 := n16_
     have NB110_118 := n17_
     have NB118_110 := n18_
     have NB111_118 := n19_
     have NB118_111 := n20_
     have NB112_118 := n21_
     have NB118_112 := n22_
     have HB := n23_
     clear n0_ n1_ n2_ n3_ n4_ n5_ n6_ n7_ n8_ n9_ n10_ n11_ n12_ n13_ n14_ n15_ n16_ n17_ n18_ n19_ n20_ n21_ n22_ n23_
     have hHeld : w12.cell? ⟨gb110, 0, none⟩ = some (.int .i64 a0_0) ∧ w12.cell? ⟨gb110, 1, none⟩ = some (.int .i64 a0_1) ∧ w12.cell? ⟨gb111, 0, none⟩ = some (.int .i64 a1_0) ∧ w12.cell? ⟨gb111, 1, none⟩ = some (.int .i64 a1_1) := hS_
     refine norm_ (a' := ?_) ?_ ?_
     rotate_left
     ·simp only [putAll, Act.put, List.setIfInBounds_toArray, List.set_cons_zero, List.set_cons_succ]
      rfl
     refine one_ (i := 9) (N := some 16) #[true, true, true, true, true, true, true, true, true, true, true, true, false, false] rfl rfl (one_of HT_.out (by kernel_rfl)) (by decide) (fun K hK => ?_)
     refine goes_ Try.func52 (by kernel_rfl) rfl #[.int .i64 a1_0, .int .i64 a0_1] (by rfl) rfl rfl al_ ?_
     with_reducible refine (packets_frac.calls k a1_0 a0_1 t115 t116 _ A4.out).mono ?_
     rintro e w13 ⟨rfl, hb⟩
     refine ⟨_, rfl, ?_⟩
     have n0_ := Aside0.mk (bkb_ BK110.out hb)
     have n1_ := Aside0.mk (bkb_ BK111.out hb)
     have n2_ := Aside0.mk (bkb_ BK112.out hb)
     have n3_ := Aside0.mk (bkb_ BK117.out hb)
     have n4_ := Aside0.mk (bkb_ BK118.out hb)
     have n5_ := Aside0.mk (below_step (hb_ HB.out) hb)
     clear BK110
     clear BK111
     clear BK112
     clear BK117
     clear BK118
     clear HB
     have BK110 := n0_
     have BK111 := n1_
     have BK112 := n2_
     have BK117 := n3_
     have BK118 := n4_
     have HB := n5_
     clear n0_ n1_ n2_ n3_ n4_ n5_
     (try clear hb)
     (try clear hb2)
     (try clear hk)
     (try clear hi)
     refine hK.out _ _ ⟨(blk_cell BK110.out 0).trans rfl, (blk_cell BK110.out 1).trans rfl, (blk_cell BK111.out 0).trans rfl, (blk_cell BK111.out 1).trans rfl⟩ (fun hHeld => ?_)
     clear hK K
     refine norm_ (a' := ?_) ?_ ?_
     rotate_left
     ·show Act.put _ (some 16) _ = _
      simp only [Act.put, List.setIfInBounds_toArray, List.set_cons_zero, List.set_cons_succ, i64_w, i32_w]
      rfl
     exact norm_ (by first | (simp only [putAll, Act.put, List.setIfInBounds_toArray, List.set_cons_zero, List.set_cons_succ]; done) | (simp only [putAll, Act.put, List.setIfInBounds_toArray, List.set_cons_zero, List.set_cons_succ]; rfl)) (hJ4_9_10_11 (gb117, gb118) _ ⟨hHeld, (bk_ BK110.out), (bk_ BK111.out), (bk_ BK112.out), (bk_ BK117.out), (bk_ BK118.out), GW117.out, GE117.out, NB110_117.out, NB117_110.out, NB111_117.out, NB117_111.out, NB112_117.out, NB117_112.out, NB118_117.out, NB117_118.out, GW118.out, GE118.out, NB110_118.out, NB118_110.out, NB111_118.out, NB118_111.out, NB112_118.out, NB118_112.out, (hb_ HB.out)⟩)
   ·skip
    rintro gb118 w12 ⟨hS_, h0_, h1_, h2_, h3_, h4_, h5_, h6_, h7_, h8_, h9_, h10_, h11_, h12_⟩
    have n0_ : Aside0 (w12.heap[gb110]? = some (.cells #[.int .i64 a0_0, .int .i64 a0_1] 25 (0, 0))) := ⟨h0_⟩
    have n1_ : Aside0 (w12.heap[gb111]? = some (.cells #[.int .i64 a1_0, .int .i64 a1_1] 25 (0, 0))) := ⟨h1_⟩
    have n2_ : Aside0 (w12.heap[gb112]? = some (.cells #[.int .i64 0, .int .i64 0] 25 (0, 0))) := ⟨h2_⟩
    have n3_ : Aside0 (w12.heap[gb118]? = some (.cells #[.int .i64 0, .int .i64 0] 25 (0, 0))) := ⟨h3_⟩
    have n4_ : Aside0 (w.heap.size ≤ gb118) := ⟨h4_⟩
    have n5_ : Aside0 (w.heap.size ≤ gb118) := ⟨h5_⟩
    have n6_ : Aside0 (gb110 ≠ gb118) := ⟨h6_⟩
    have n7_ : Aside0 (gb118 ≠ gb110) := ⟨h7_⟩
    have n8_ : Aside0 (gb111 ≠ gb118) := ⟨h8_⟩
    have n9_ : Aside0 (gb118 ≠ gb111) := ⟨h9_⟩
    have n10_ : Aside0 (gb112 ≠ gb118) := ⟨h10_⟩
    have n11_ : Aside0 (gb118 ≠ gb112) := ⟨h11_⟩
    have n12_ : Aside0 (Below w.heap.size w w12) := ⟨h12_⟩
    clear BK110
    clear BK111
    clear BK112
    clear HB
    clear h0_ h1_ h2_ h3_ h4_ h5_ h6_ h7_ h8_ h9_ h10_ h11_ h12_
    have BK110 := n0_
    have BK111 := n1_
    have BK112 := n2_
    have BK118 := n3_
    have GW118 := n4_
    have GE118 := n5_
    have NB110_118 := n6_
    have NB118_110 := n7_
    have NB111_118 := n8_
    have NB118_111 := n9_
    have NB112_118 := n10_
    have NB118_112 := n11_
    have HB := n12_
    clear n0_ n1_ n2_ n3_ n4_ n5_ n6_ n7_ n8_ n9_ n10_ n11_ n12_
    have hHeld : w12.cell? ⟨gb110, 0, none⟩ = some (.int .i64 a0_0) ∧ w12.cell? ⟨gb110, 1, none⟩ = some (.int .i64 a0_1) ∧ w12.cell? ⟨gb111, 0, none⟩ = some (.int .i64 a1_0) ∧ w12.cell? ⟨gb111, 1, none⟩ = some (.int .i64 a1_1) := hS_
    refine norm_ (a' := ?_) ?_ ?_
    rotate_left
    ·simp only [putAll, Act.put, List.setIfInBounds_toArray, List.set_cons_zero, List.set_cons_succ]
     rfl
    refine one_ (i := 10) (N := some 5) #[true, true, true, true, true, true, true, true, true, true, true, true, false, false] rfl rfl (one_of HT_.out (by kernel_rfl)) (by decide) (fun K hK => ?_)
    refine box_step ?hg (N := 5) ?hd (cs := #[.int .i64 0, .int .i64 0]) (t := 25) ?hr ?_; (case hd => rfl); (case hg => rfl); (case hr => first | (go_simp; done) | (go_simp; rfl))
    intro gb117 hg w13 hbox hb
    have n0_ := Aside0.mk (bkb_ BK110.out hb)
    have n1_ := Aside0.mk (bkb_ BK111.out hb)
    have n2_ := Aside0.mk (bkb_ BK112.out hb)
    have n3_ := Aside0.mk (bkb_ BK118.out hb)
    have n4_ := Aside0.mk (below_step (hb_ HB.out) hb)
    have n5_ := Aside0.mk (hbox)
    have n6_ := Aside0.mk ((by rw [hg]; exact (below_size (hb_ HB.out)) : w.heap.size ≤ gb117))
    have n7_ := Aside0.mk ((by rw [hg]; exact (below_size (hb_ HB.out)) : w.heap.size ≤ gb117))
    have n8_ := Aside0.mk ((by rw [hg]; exact Nat.ne_of_lt (bkl_ BK110.out) : gb110 ≠ gb117))
    have n9_ := Aside0.mk ((by rw [hg]; exact Nat.ne_of_gt (bkl_ BK110.out) : gb117 ≠ gb110))
    have n10_ := Aside0.mk ((by rw [hg]; exact Nat.ne_of_lt (bkl_ BK111.out) : gb111 ≠ gb117))
    have n11_ := Aside0.mk ((by rw [hg]; exact Nat.ne_of_gt (bkl_ BK111.out) : gb117 ≠ gb111))
    have n12_ := Aside0.mk ((by rw [hg]; exact Nat.ne_of_lt (bkl_ BK112.out) : gb112 ≠ gb117))
    have n13_ := Aside0.mk ((by rw [hg]; exact Nat.ne_of_gt (bkl_ BK112.out) : gb117 ≠ gb112))
    have n14_ := Aside0.mk ((by rw [hg]; exact Nat.ne_of_lt (bkl_ BK118.out) : gb118 ≠ gb117))
    have n15_ := Aside0.mk ((by rw [hg]; exact Nat.ne_of_gt (bkl_ BK118.out) : gb117 ≠ gb118))
    clear BK110
    clear BK111
    clear BK112
    clear BK118
    clear HB
    have BK110 := n0_
    have BK111 := n1_
    have BK112 := n2_
    have BK118 := n3_
    have HB := n4_
    have BK117 := n5_
    have GW117 := n6_
    have GE117 := n7_
    have NB110_117 := n8_
    have NB117_110 := n9_
    have NB111_117 := n10_
    have NB117_111 := n11_
    have NB112_117 := n12_
    have NB117_112 := n13_
    have NB118_117 := n14_
    have NB117_118 := n15_
    clear n0_ n1_ n2_ n3_ n4_ n5_ n6_ n7_ n8_ n9_ n10_ n11_ n12_ n13_ n14_ n15_
    clear hb hbox hg
    refine hK.out _ _ ⟨(blk_cell BK110.out 0).trans rfl, (blk_cell BK110.out 1).trans rfl, (blk_cell BK111.out 0).trans rfl, (blk_cell BK111.out 1).trans rfl⟩ (fun hHeld => ?_)
    clear hK K
    refine norm_ (a' := ?_) ?_ ?_
    rotate_left
    ·show Act.put _ (some 5) _ = _
     simp only [Act.put, List.setIfInBounds_toArray, List.set_cons_zero, List.set_cons_succ, i64_w, i32_w]
     rfl
    exact norm_ (by first | (simp only [putAll, Act.put, List.setIfInBounds_toArray, List.set_cons_zero, List.set_cons_succ]; done) | (simp only [putAll, Act.put, List.setIfInBounds_toArray, List.set_cons_zero, List.set_cons_succ]; rfl)) (hJ4_9_10_11 (gb117, gb118) _ ⟨hHeld, (bk_ BK110.out), (bk_ BK111.out), (bk_ BK112.out), (bk_ BK117.out), (bk_ BK118.out), GW117.out, GE117.out, NB110_117.out, NB117_110.out, NB111_117.out, NB117_111.out, NB112_117.out, NB117_112.out, NB118_117.out, NB117_118.out, GW118.out, GE118.out, NB110_118.out, NB118_110.out, NB111_118.out, NB118_111.out, NB112_118.out, NB118_112.out, (hb_ HB.out)⟩)
  ·skip
   rintro gb117 w12 ⟨hS_, h0_, h1_, h2_, h3_, h4_, h5_, h6_, h7_, h8_, h9_, h10_, h11_, h12_⟩
   have n0_ : Aside0 (w12.heap[gb110]? = some (.cells #[.int .i64 a0_0, .int .i64 a0_1] 25 (0, 0))) := ⟨h0_⟩
   have n1_ : Aside0 (w12.heap[gb111]? = some (.cells #[.int .i64 a1_0, .int .i64 a1_1] 25 (0, 0))) := ⟨h1_⟩
   have n2_ : Aside0 (w12.heap[gb112]? = some (.cells #[.int .i64 0, .int .i64 0] 25 (0, 0))) := ⟨h2_⟩
   have n3_ : Aside0 (w12.heap[gb117]? = some (.cells #[.int .i64 0, .int .i64 0] 25 (0, 0))) := ⟨h3_⟩
   have n4_ : Aside0 (w.heap.size ≤ gb117) := ⟨h4_⟩
   have n5_ : Aside0 (w.heap.size ≤ gb117) := ⟨h5_⟩
   have n6_ : Aside0 (gb110 ≠ gb117) := ⟨h6_⟩
   have n7_ : Aside0 (gb117 ≠ gb110) := ⟨h7_⟩
   have n8_ : Aside0 (gb111 ≠ gb117) := ⟨h8_⟩
   have n9_ : Aside0 (gb117 ≠ gb111) := ⟨h9_⟩
   have n10_ : Aside0 (gb112 ≠ gb117) := ⟨h10_⟩
   have n11_ : Aside0 (gb117 ≠ gb112) := ⟨h11_⟩
   have n12_ : Aside0 (Below w.heap.size w w12) := ⟨h12_⟩
   clear BK110
   clear BK111
   clear BK112
   clear HB
   clear h0_ h1_ h2_ h3_ h4_ h5_ h6_ h7_ h8_ h9_ h10_ h11_ h12_
   have BK110 := n0_
   have BK111 := n1_
   have BK112 := n2_
   have BK117 := n3_
   have GW117 := n4_
   have GE117 := n5_
   have NB110_117 := n6_
   have NB117_110 := n7_
   have NB111_117 := n8_
   have NB117_111 := n9_
   have NB112_117 := n10_
   have NB117_112 := n11_
   have HB := n12_
   clear n0_ n1_ n2_ n3_ n4_ n5_ n6_ n7_ n8_ n9_ n10_ n11_ n12_
   have hHeld : w12.cell? ⟨gb110, 0, none⟩ = some (.int .i64 a0_0) ∧ w12.cell? ⟨gb110, 1, none⟩ = some (.int .i64 a0_1) ∧ w12.cell? ⟨gb111, 0, none⟩ = some (.int .i64 a1_0) ∧ w12.cell? ⟨gb111, 1, none⟩ = some (.int .i64 a1_1) := hS_
   refine norm_ (a' := ?_) ?_ ?_
   rotate_left
   ·simp only [putAll, Act.put, List.setIfInBounds_toArray, List.set_cons_zero, List.set_cons_succ]
    rfl
   refine one_ (i := 11) (N := some 6) #[true, true, true, true, true, true, true, true, true, true, true, true, false, false] rfl rfl (one_of HT_.out (by kernel_rfl)) (by decide) (fun K hK => ?_)
   refine box_step ?hg (N := 6) ?hd (cs := #[.int .i64 0, .int .i64 0]) (t := 25) ?hr ?_; (case hd => rfl); (case hg => rfl); (case hr => first | (go_simp; done) | (go_simp; rfl))
   intro gb118 hg w13 hbox hb
   have n0_ := Aside0.mk (bkb_ BK110.out hb)
   have n1_ := Aside0.mk (bkb_ BK111.out hb)
   have n2_ := Aside0.mk (bkb_ BK112.out hb)
   have n3_ := Aside0.mk (bkb_ BK117.out hb)
   have n4_ := Aside0.mk (below_step (hb_ HB.out) hb)
   have n5_ := Aside0.mk (hbox)
   have n6_ := Aside0.mk ((by rw [hg]; exact (below_size (hb_ HB.out)) : w.heap.size ≤ gb118))
   have n7_ := Aside0.mk ((by rw [hg]; exact (below_size (hb_ HB.out)) : w.heap.size ≤ gb118))
   have n8_ := Aside0.mk ((by rw [hg]; exact Nat.ne_of_lt (bkl_ BK110.out) : gb110 ≠ gb118))
   have n9_ := Aside0.mk ((by rw [hg]; exact Nat.ne_of_gt (bkl_ BK110.out) : gb118 ≠ gb110))
   have n10_ := Aside0.mk ((by rw [hg]; exact Nat.ne_of_lt (bkl_ BK111.out) : gb111 ≠ gb118))
   have n11_ := Aside0.mk ((by rw [hg]; exact Nat.ne_of_gt (bkl_ BK111.out) : gb118 ≠ gb111))
   have n12_ := Aside0.mk ((by rw [hg]; exact Nat.ne_of_lt (bkl_ BK112.out) : gb112 ≠ gb118))
   have n13_ := Aside0.mk ((by rw [hg]; exact Nat.ne_of_gt (bkl_ BK112.out) : gb118 ≠ gb112))
   have n14_ := Aside0.mk ((by rw [hg]; exact Nat.ne_of_lt (bkl_ BK117.out) : gb117 ≠ gb118))
   have n15_ := Aside0.mk ((by rw [hg]; exact Nat.ne_of_gt (bkl_ BK117.out) : gb118 ≠ gb117))
   clear BK110
   clear BK111
   clear BK112
   clear BK117
   clear HB
   have BK110 := n0_
   have BK111 := n1_
   have BK112 := n2_
   have BK117 := n3_
   have HB := n4_
   have BK118 := n5_
   have GW118 := n6_
   have GE118 := n7_
   have NB110_118 := n8_
   have NB118_110 := n9_
   have NB111_118 := n10_
   have NB118_111 := n11_
   have NB112_118 := n12_
   have NB118_112 := n13_
   have NB117_118 := n14_
   have NB118_117 := n15_
   clear n0_ n1_ n2_ n3_ n4_ n5_ n6_ n7_ n8_ n9_ n10_ n11_ n12_ n13_ n14_ n15_
   clear hb hbox hg
   refine hK.out _ _ ⟨(blk_cell BK110.out 0).trans rfl, (blk_cell BK110.out 1).trans rfl, (blk_cell BK111.out 0).trans rfl, (blk_cell BK111.out 1).trans rfl⟩ (fun hHeld => ?_)
   clear hK K
   refine norm_ (a' := ?_) ?_ ?_
   rotate_left
   ·show Act.put _ (some 6) _ = _
    simp only [Act.put, List.setIfInBounds_toArray, List.set_cons_zero, List.set_cons_succ, i64_w, i32_w]
    rfl
   exact norm_ (by first | (simp only [putAll, Act.put, List.setIfInBounds_toArray, List.set_cons_zero, List.set_cons_succ]; done) | (simp only [putAll, Act.put, List.setIfInBounds_toArray, List.set_cons_zero, List.set_cons_succ]; rfl)) (hJ4_9_10_11 (gb117, gb118) _ ⟨hHeld, (bk_ BK110.out), (bk_ BK111.out), (bk_ BK112.out), (bk_ BK117.out), (bk_ BK118.out), GW117.out, GE117.out, NB110_117.out, NB117_110.out, NB111_117.out, NB117_111.out, NB112_117.out, NB117_112.out, NB118_117.out, NB117_118.out, GW118.out, GE118.out, NB110_118.out, NB118_110.out, NB111_118.out, NB118_111.out, NB112_118.out, NB118_112.out, (hb_ HB.out)⟩)
 rintro ⟨gb117, gb118⟩ w13 ⟨hS_, h0_, h1_, h2_, h3_, h4_, h5_, h6_, h7_, h8_, h9_, h10_, h11_, h12_, h13_, h14_, h15_, h16_, h17_, h18_, h19_, h20_, h21_, h22_, h23_⟩
 have n0_ : Aside0 (w13.heap[gb110]? = some (.cells #[.int .i64 a0_0, .int .i64 a0_1] 25 (0, 0))) := ⟨h0_⟩
 have n1_ : Aside0 (w13.heap[gb111]? = some (.cells #[.int .i64 a1_0, .int .i64 a1_1] 25 (0, 0))) := ⟨h1_⟩
 have n2_ : Aside0 (w13.heap[gb112]? = some (.cells #[.int .i64 0, .int .i64 0] 25 (0, 0))) := ⟨h2_⟩
 have n3_ : Aside0 (w13.heap[gb117]? = some (.cells #[.int .i64 0, .int .i64 0] 25 (0, 0))) := ⟨h3_⟩
 have n4_ : Aside0 (w13.heap[gb118]? = some (.cells #[.int .i64 0, .int .i64 0] 25 (0, 0))) := ⟨h4_⟩
 have n5_ : Aside0 (w.heap.size ≤ gb117) := ⟨h5_⟩
 have n6_ : Aside0 (w.heap.size ≤ gb117) := ⟨h6_⟩
 have n7_ : Aside0 (gb110 ≠ gb117) := ⟨h7_⟩
 have n8_ : Aside0 (gb117 ≠ gb110) := ⟨h8_⟩
 have n9_ : Aside0 (gb111 ≠ gb117) := ⟨h9_⟩
 have n10_ : Aside0 (gb117 ≠ gb111) := ⟨h10_⟩
 have n11_ : Aside0 (gb112 ≠ gb117) := ⟨h11_⟩
 have n12_ : Aside0 (gb117 ≠ gb112) := ⟨h12_⟩
 have n13_ : Aside0 (gb118 ≠ gb117) := ⟨h13_⟩
 have n14_ : Aside0 (gb117 ≠ gb118) := ⟨h14_⟩
 have n15_ : Aside0 (w.heap.size ≤ gb118) := ⟨h15_⟩
 have n16_ : Aside0 (w.heap.size ≤ gb118) := ⟨h16_⟩
 have n17_ : Aside0 (gb110 ≠ gb118) := ⟨h17_⟩
 have n18_ : Aside0 (gb118 ≠ gb110) := ⟨h18_⟩
 have n19_ : Aside0 (gb111 ≠ gb118) := ⟨h19_⟩
 have n20_ : Aside0 (gb118 ≠ gb111) := ⟨h20_⟩
 have n21_ : Aside0 (gb112 ≠ gb118) := ⟨h21_⟩
 have n22_ : Aside0 (gb118 ≠ gb112) := ⟨h22_⟩
 have n23_ : Aside0 (Below w.heap.size w w13) := ⟨h23_⟩
 clear BK110
 clear BK111
 clear BK112
 clear HB
 clear h0_ h1_ h2_ h3_ h4_ h5_ h6_ h7_ h8_ h9_ h10_ h11_ h12_ h13_ h14_ h15_ h16_ h17_ h18_ h19_ h20_ h21_ h22_ h23_
 have BK110 := n0_
 have BK111 := n1_
 have BK112 := n2_
 have BK117 := n3_
 have BK118 := n4_
 have GW117 := n5_
 have GE117 := n6_
 have NB110_117 := n7_
 have NB117_110 := n8_
 have NB111_117 := n9_
 have NB117_111 := n10_
 have NB112_117 := n11_
 have NB117_112 := n12_
 have NB118_117 := n13_
 have NB117_118 := n14_
 have GW118 := n15_
 have GE118 := n16_
 have NB110_118 := n17_
 have NB118_110 := n18_
 have NB111_118 := n19_
 have NB118_111 := n20_
 have NB112_118 := n21_
 have NB118_112 := n22_
 have HB := n23_
 clear n0_ n1_ n2_ n3_ n4_ n5_ n6_ n7_ n8_ n9_ n10_ n11_ n12_ n13_ n14_ n15_ n16_ n17_ n18_ n19_ n20_ n21_ n22_ n23_
 have hHeld : w13.cell? ⟨gb110, 0, none⟩ = some (.int .i64 a0_0) ∧ w13.cell? ⟨gb110, 1, none⟩ = some (.int .i64 a0_1) ∧ w13.cell? ⟨gb111, 0, none⟩ = some (.int .i64 a1_0) ∧ w13.cell? ⟨gb111, 1, none⟩ = some (.int .i64 a1_1) := hS_
 refine norm_ (a' := ?_) ?_ ?_
 rotate_left
 ·simp only [putAll, Act.put, List.setIfInBounds_toArray, List.set_cons_zero, List.set_cons_succ]
  rfl
 refine one_ (i := 12) (N := none) #[true, true, true, true, true, true, true, true, true, true, true, true, true, false] rfl rfl (one_of HT_.out (by kernel_rfl)) (by decide) (fun K hK => ?_)
 have hs14 : w13.cell? ⟨gb117, 0, none⟩ = some (.int .i64 0) := (blk_cell BK117.out 0).trans rfl
 have hfs14 := blk_frozen BK117.out 0
 have hns14_0 := NB110_117.out
 have hns14_1 := NB111_117.out
 have hns14_2 := NB112_117.out
 have hns14_4 := NB118_117.out
 have hms14_0 := NB117_110.out
 have hms14_1 := NB117_111.out
 have hms14_2 := NB117_112.out
 have hms14_4 := NB117_118.out
 have hs15 : w13.cell? ⟨gb117, 1, none⟩ = some (.int .i64 0) := (blk_cell BK117.out 1).trans rfl
 have hfs15 := blk_frozen BK117.out 1
 have hns15_0 := NB110_117.out
 have hns15_1 := NB111_117.out
 have hns15_2 := NB112_117.out
 have hns15_4 := NB118_117.out
 have hms15_0 := NB117_110.out
 have hms15_1 := NB117_111.out
 have hms15_2 := NB117_112.out
 have hms15_4 := NB117_118.out
 refine skip_ (w1 := ?_) (by rfl) rfl ?_ ?_
 rotate_left
 ·go_simp
  rfl
 refine hK.out _ _ ⟨((cell_far (p := ⟨gb117, _, none⟩) NB110_117.out _).trans (((cell_far (p := ⟨gb117, _, none⟩) NB110_117.out _).trans (hHeld.1)))), ((cell_far (p := ⟨gb117, _, none⟩) NB110_117.out _).trans (((cell_far (p := ⟨gb117, _, none⟩) NB110_117.out _).trans (hHeld.2.1)))), ((cell_far (p := ⟨gb117, _, none⟩) NB111_117.out _).trans (((cell_far (p := ⟨gb117, _, none⟩) NB111_117.out _).trans (hHeld.2.2.1)))), ((cell_far (p := ⟨gb117, _, none⟩) NB111_117.out _).trans (((cell_far (p := ⟨gb117, _, none⟩) NB111_117.out _).trans (hHeld.2.2.2))))⟩ (fun hHeld => ?_)
 clear hK K
 refine one_ (i := 13) (N := none) #[true, true, true, true, true, true, true, true, true, true, true, true, true, true] rfl rfl (one_of HT_.out (by kernel_rfl)) (by decide) (fun K hK => ?_)
 have hs16 : w13.cell? ⟨gb118, 0, none⟩ = some (.int .i64 0) := (blk_cell BK118.out 0).trans rfl
 have hfs16 := blk_frozen BK118.out 0
 have hns16_0 := NB110_118.out
 have hns16_1 := NB111_118.out
 have hns16_2 := NB112_118.out
 have hns16_3 := NB117_118.out
 have hms16_0 := NB118_110.out
 have hms16_1 := NB118_111.out
 have hms16_2 := NB118_112.out
 have hms16_3 := NB118_117.out
 have hs17 : w13.cell? ⟨gb118, 1, none⟩ = some (.int .i64 0) := (blk_cell BK118.out 1).trans rfl
 have hfs17 := blk_frozen BK118.out 1
 have hns17_0 := NB110_118.out
 have hns17_1 := NB111_118.out
 have hns17_2 := NB112_118.out
 have hns17_3 := NB117_118.out
 have hms17_0 := NB118_110.out
 have hms17_1 := NB118_111.out
 have hms17_2 := NB118_112.out
 have hms17_3 := NB118_117.out
 refine skip_ (w1 := ?_) (by rfl) rfl ?_ ?_
 rotate_left
 ·go_simp
  rfl
 refine hK.out _ _ ⟨((cell_far (p := ⟨gb118, _, none⟩) NB110_118.out _).trans (((cell_far (p := ⟨gb118, _, none⟩) NB110_118.out _).trans (hHeld.1)))), ((cell_far (p := ⟨gb118, _, none⟩) NB110_118.out _).trans (((cell_far (p := ⟨gb118, _, none⟩) NB110_118.out _).trans (hHeld.2.1)))), ((cell_far (p := ⟨gb118, _, none⟩) NB111_118.out _).trans (((cell_far (p := ⟨gb118, _, none⟩) NB111_118.out _).trans (hHeld.2.2.1)))), ((cell_far (p := ⟨gb118, _, none⟩) NB111_118.out _).trans (((cell_far (p := ⟨gb118, _, none⟩) NB111_118.out _).trans (hHeld.2.2.2))))⟩ (fun hHeld => ?_)
 clear hK K
 refine done_ (done_of HT_.out (by kernel_rfl)) ?_
 have hnb18 := NB117_110.out
 have hnc18 := NB110_117.out
 have hnb19 := NB117_111.out
 have hnc19 := NB111_117.out
 have hnb20 := NB117_112.out
 have hnc20 := NB112_117.out
 have hnb21 := NB117_118.out
 have hnc21 := NB118_117.out
 have hcz22_0 : w13.cell? ⟨gb117, 0, none⟩ = some (.int .i64 0) := (blk_cell BK117.out 0).trans rfl
 have hcz22_1 : w13.cell? ⟨gb117, 1, none⟩ = some (.int .i64 0) := (blk_cell BK117.out 1).trans rfl
 have hfz22_0 := blk_frozen BK117.out 0
 have hfz22_1 := blk_frozen BK117.out 1
 have hnb23 := NB118_110.out
 have hnc23 := NB110_118.out
 have hnb24 := NB118_111.out
 have hnc24 := NB111_118.out
 have hnb25 := NB118_112.out
 have hnc25 := NB112_118.out
 have hcz26_0 : w13.cell? ⟨gb118, 0, none⟩ = some (.int .i64 0) := (blk_cell BK118.out 0).trans rfl
 have hcz26_1 : w13.cell? ⟨gb118, 1, none⟩ = some (.int .i64 0) := (blk_cell BK118.out 1).trans rfl
 have hfz26_0 := blk_frozen BK118.out 0
 have hfz26_1 := blk_frozen BK118.out 1
 have hnb27 := NB112_110.out
 have hnc27 := NB110_112.out
 have hnb28 := NB112_111.out
 have hnc28 := NB111_112.out
 have hcz29_0 : w13.cell? ⟨gb112, 0, none⟩ = some (.int .i64 0) := (blk_cell BK112.out 0).trans rfl
 have hcz29_1 : w13.cell? ⟨gb112, 1, none⟩ = some (.int .i64 0) := (blk_cell BK112.out 1).trans rfl
 have hfz29_0 := blk_frozen BK112.out 0
 have hfz29_1 := blk_frozen BK112.out 1
 try go_wp2
 refine bodyPost_ret (results_cell_row rfl _ _ gb112 25 #[.int .i64 (wrap64 (t113 * t115)), .int .i64 (wrap64 (t114 * t116))] (0, 0) _ rfl (by (with_reducible repeat (first | refine blk_drewN ?_ _ | refine blk_drew ?_ | refine blk_alloc ?_ _)); refine blk_put (cs := #[.int .i64 (wrap64 (t113 * t115)), .int .i64 0]) ?_ 1 _ rfl; (with_reducible repeat (first | refine blk_drewN ?_ _ | refine blk_drew ?_ | refine blk_alloc ?_ _)); refine blk_put (cs := #[.int .i64 0, .int .i64 0]) ?_ 0 _ rfl; (with_reducible repeat (first | refine blk_drewN ?_ _ | refine blk_drew ?_ | refine blk_alloc ?_ _)); refine blk_far ?_ NB112_118.out _; (with_reducible repeat (first | refine blk_drewN ?_ _ | refine blk_drew ?_ | refine blk_alloc ?_ _)); refine blk_far ?_ NB112_118.out _; (with_reducible repeat (first | refine blk_drewN ?_ _ | refine blk_drew ?_ | refine blk_alloc ?_ _)); refine blk_far ?_ NB112_117.out _; (with_reducible repeat (first | refine blk_drewN ?_ _ | refine blk_drew ?_ | refine blk_alloc ?_ _)); refine blk_far ?_ NB112_117.out _; (with_reducible repeat (first | refine blk_drewN ?_ _ | refine blk_drew ?_ | refine blk_alloc ?_ _)); exact BK112.out) Try.underlying25 rfl (by kernel_rfl)) rfl ?_
 exact ⟨by first | rfl | (simp [errW_none, errW_some] <;> rfl) | (simp [*, errW_none, errW_some] <;> rfl), by repeat (first | (with_reducible first | exact HB.out | apply below_alloc | apply pw_below_drewN | apply below_drew1 | refine below_set ?_ GE110.out | refine below_set ?_ GE111.out | refine below_set ?_ GE112.out | refine below_set ?_ GE117.out | refine below_set ?_ GE118.out) | exact HB.out)⟩

end Go.Proofs.Ytigmhomfadimnaa.X
