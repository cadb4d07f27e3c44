/- Written by a program of this session (wip/tools/xprint.py, which calls the kit's print): Go functions as Lean functions, and for each the proof that the machine's call does what it says; no conditions but those that each theorem names. -/
import Derived.Test.YtmlbdkkdejecmaaQX0
import Derived.Test.YtmlbdkkdejecmaaQXStep
namespace Go.Proofs.Ytmlbdkkdejecmaa.X
open Go.RowKit Go.Proofs.YtmlbdkkdejecmaaW.PrintWords Go.Proofs.YtmlbdkkdejecmaaW.PrintLast Go.Proofs.YtmlbdkkdejecmaaW.PrintMore
attribute [local go_sem] max2_int min2_int max_two min_two max_three min_three max_four min_four   -- for this text's walks alone
set_option linter.unusedVariables false
set_option linter.unusedSimpArgs false

/-! ### tags_runs: function 45 -/
def tags_runs.l0 : Nat → List (S45) → Int → List (S87) → List Int → Option ((List (S87)) × List Int)
 | 0, _, _, _, _ => none
 | k + 1, x0, x2, x113000, x113001 => if (x113001.length : Int) < x2 then (if 0 ≤ (wrap64 ((x113000.length : Int) - 1)) then (if (wrap64 ((x113000.length : Int) - 1)) < (x113000.length : Int) then ((tags_step.f x0 ((rd_T87 x113000 (wrap64 ((x113000.length : Int) - 1))).f0) ((rd_T87 x113000 (wrap64 ((x113000.length : Int) - 1))).f1.f0) ((rd_T87 x113000 (wrap64 ((x113000.length : Int) - 1))).f1.f1)).bind fun bt114 => (if bt114.2.2.2.2 = true then ((some (([(⟨bt114.1, (⟨bt114.2.1, bt114.2.2.1⟩ : S40)⟩ : S87)] : List (S87)) : List (S87))).bind fun y120 => (if x113000.length + y120.length < 5864062014805 then ((some (([bt114.2.2.2.1] : List Int) : List Int)).bind fun y126 => (if x113001.length + y126.length < 17592186044416 then (tags_runs.l0 k x0 x2 (x113000 ++ y120) (x113001 ++ y126)) else (none))) else (none))) else (some (x113000, x113001)))) else (none)) else (none)) else (some (x113000, x113001))
def tags_runs.f (k : Nat) (l0 : List (S45)) (a1_0 : Int) (a1_1 : Int) (a2 : Int) : Option ((List (S87)) × List Int) := tags_runs.l0 k l0 a2 (([(⟨0, (⟨a1_0, a1_1⟩ : S40)⟩ : S87)] : List (S87))) ([] : List Int)
def tags_runs.T5 : Bool × List (List Nat × List Nat) := (true, [([], []), ([0], [0]), ([], []), ([2], [2]), ([1, 3], [1, 3]), ([], []), ([5], [5]), ([], []), ([7], [7]), ([6, 8, 4], [6, 8]), ([0, 1, 2, 3, 4, 5, 6], []), ([10, 4, 9, 0, 1, 2, 3, 4, 5, 6], [4, 10]), ([0, 1, 2, 3, 4, 5, 6, 7, 8, 9, 10, 11], []), ([12, 9, 11, 0, 1, 2, 3, 4, 5, 6, 7, 8, 9, 10, 11], [9, 12])])
def tags_runs.B5 : List Nat := [0, 1, 0, 4, 15, 0, 32, 0, 128, 511, 127, 2047, 4095, 8191]
theorem tags_runs.tab5 : rtab .any (opsOf Try.f45 5) = tags_runs.T5 := by kernel_rfl
theorem tags_runs.bits5 : waitsOk tags_runs.T5.2 tags_runs.B5 = true := by kernel_rfl
set_option maxHeartbeats 8000000 in
set_option maxRecDepth 100000 in
theorem tags_runs.calls (k : Nat) (A0 : Option Addr) (c0 : Nat) (l0 : List (S45)) (a1_0 : Int) (a1_1 : Int) (a2 : Int) (r1 : List (S87)) (r2 : List Int) (w : World) (hr0 : Kd.C k45 w A0 l0.length l0) (hc0 : l0.length ≤ c0) (h : tags_runs.f k l0 a1_0 a1_1 a2 = some (r1, r2)) :
  Calls Try.prog 45 #[.slice A0 l0.length c0, .agg #[.int .i64 a1_0, .int .i64 a1_1], .int .i64 a2] w fun e w' => ∃ v0_ v1_ : Value, e = .returned (.agg #[v0_, v1_]) ∧ Kd.R k87 87 w' w.heap.size (fun _ => True) v0_ r1 ∧ Kd.R (Kd.int .i64) 3 w' w.heap.size (fun _ => True) v1_ r2 ∧ Below w.heap.size w w' := by
 have hu40 := Try.underlying40
 have hu82 := Try.underlying82
 have hu87 := Try.underlying87
 have HR0 := Aside0.mk hr0
 have HC0 := Aside0.mk hc0
 clear hr0 hc0
 have HB := Aside0.mk (Below.refl w.heap.size w)
 have H : (tags_runs.l0 k l0 a2 (([(⟨0, (⟨a1_0, a1_1⟩ : S40)⟩ : S87)] : List (S87))) ([] : List Int)) = some (r1, r2) := h
 clear h
 obtain ⟨y109, hy109⟩ : ∃ y_ : List (S87), y_ = (([(⟨0, (⟨a1_0, a1_1⟩ : S40)⟩ : S87)] : List (S87))) := ⟨_, rfl⟩
 replace H : (tags_runs.l0 k l0 a2 y109 ([] : List Int)) = some (r1, r2) := by first | (rw [hy109]; with_reducible exact H) | (have H2_ := (Option.bind_some _ _).symm.trans H; rw [hy109]; with_reducible exact H2_) | (have H2_ := (Option.bind_some _ _).symm.trans H; with_reducible exact H2_) | with_reducible exact H | (rw [hy109]; exact H) | exact H
 have Ny109 := Aside0.mk hy109
 clear hy109
 have H' := Aside0.mk H
 clear H
 go_enter Try.func45, Try.ntmps45
 go_wp2_with (first | ((with_reducible refine gate_dst (N := 4) rfl ?_); refine box_event ?hg (N := 4) ?hd (cs := #[.int .i64 a1_0, .int .i64 a1_1]) (t := 40) ?hr ?_; (case hd => rfl); (case hg => rfl); (case hr => first | (go_simp; done) | (go_simp; rfl)); intro gb107 hg w4 hbox hb; have n0_ := Aside0.mk (below_step (hb_ HB.out) hb); have n1_ := Aside0.mk (hbox); have n2_ := Aside0.mk ((by rw [hg]; exact (below_size (hb_ HB.out)) : w.heap.size ≤ gb107)); have n3_ := Aside0.mk ((by rw [hg]; exact (below_size (hb_ HB.out)) : w.heap.size ≤ gb107)); clear HB; have HB := n0_; have BK107 := n1_; have GW107 := n2_; have GE107 := n3_; clear n0_ n1_ n2_ n3_; clear hb hbox hg) | ((with_reducible refine gate_dst (N := 6) rfl ?_); refine box_event ?hg (N := 6) ?hd (cs := #[.slice none 0 0, .slice none 0 0]) (t := 82) ?hr ?_; (case hd => rfl); (case hg => rfl); (case hr => first | (go_simp; done) | (go_simp; rfl)); intro gb108 hg w5 hbox hb; have n0_ := Aside0.mk (bkb_ BK107.out hb); have n1_ := Aside0.mk (below_step (hb_ HB.out) hb); have n2_ := Aside0.mk (hbox); have n3_ := Aside0.mk ((by rw [hg]; exact (below_size (hb_ HB.out)) : w.heap.size ≤ gb108)); have n4_ := Aside0.mk ((by rw [hg]; exact (below_size (hb_ HB.out)) : w.heap.size ≤ gb108)); have n5_ := Aside0.mk ((by rw [hg]; exact Nat.ne_of_lt (bkl_ BK107.out) : gb107 ≠ gb108)); have n6_ := Aside0.mk ((by rw [hg]; exact Nat.ne_of_gt (bkl_ BK107.out) : gb108 ≠ gb107)); clear BK107; clear HB; have BK107 := n0_; have HB := n1_; have BK108 := n2_; have GW108 := n3_; have GE108 := n4_; have NB107_108 := n5_; have NB108_107 := n6_; clear n0_ n1_ n2_ n3_ n4_ n5_ n6_; clear hb hbox hg; have hnb6 := NB107_108.out; have hnc6 := NB108_107.out; have hcz7_0 : w5.cell? ⟨gb107, 0, none⟩ = some (.int .i64 a1_0) := (blk_cell BK107.out 0).trans rfl; have hcz7_1 : w5.cell? ⟨gb107, 1, none⟩ = some (.int .i64 a1_1) := (blk_cell BK107.out 1).trans rfl; have hfz7_0 := blk_frozen BK107.out 0; have hfz7_1 := blk_frozen BK107.out 1) | ((with_reducible refine gate_dst (N := 13) rfl ?_); refine Kd.R_lit k87 _ 87 ?hg (N := 13) ?hd (xs := ([(⟨0, (⟨a1_0, a1_1⟩ : S40)⟩ : S87)] : List (S87))) (inner := [.int .i64 0, .int .i64 a1_0, .int .i64 a1_1]) (ok := fun _ => True) (okp := fun _ => True) ?hr ?hp (fun _ hk => hk) trivial (Below.refl _ _) (Nat.le_refl _) (by simp) ?_; (case hd => rfl); (case hg => rfl); (case hr => first | (go_simp; done) | (go_simp; rfl)); (case hp => exact (Reps.c3 (show Kd.M k87 _ _ _ (⟨0, (⟨a1_0, a1_1⟩ : S40)⟩ : S87) [.int .i64 0, .int .i64 a1_0, .int .i64 a1_1] from (k87_mkM _ _ _ (⟨0, (⟨a1_0, a1_1⟩ : S40)⟩ : S87) )) (Reps.none _ _))); intro v110 w8 ho9 hb hg_ hnew_; clear hg_ hnew_; (first | rw [← Ny109.out] at ho9 | (simp only [Int.reduceToNat] at ho9; rw [← Ny109.out] at ho9)); have n0_ := Aside0.mk (Kd.R_lower ho9 (below_size (hb_ HB.out))); have n1_ := Aside0.mk (bkb_ BK107.out hb); have n2_ := Aside0.mk (bkb_ BK108.out hb); have n3_ := Aside0.mk (below_step (hb_ HB.out) hb); clear BK107; clear BK108; clear HB; have HO111 := n0_; have BK107 := n1_; have BK108 := n2_; have HB := n3_; clear n0_ n1_ n2_ n3_; clear hb ho9; obtain ⟨Ao10, co10, eo10⟩ := Kd.R_slice HO111.out; subst eo10) | ((with_reducible refine gate_dst (N := 7) rfl ?_); refine box_event ?hg (N := 7) ?hd (cs := #[.slice none 0 0, .slice none 0 0]) (t := 82) ?hr ?_; (case hd => rfl); (case hg => rfl); (case hr => first | (go_simp; done) | (go_simp; rfl)); intro gb112 hg w11 hbox hb; have n0_ := Aside0.mk (Kd.R_below (kr_ (HO111.out)) hb); have n1_ := Aside0.mk (bkb_ BK107.out hb); have n2_ := Aside0.mk (bkb_ BK108.out hb); have n3_ := Aside0.mk (below_step (hb_ HB.out) hb); have n4_ := Aside0.mk (hbox); have n5_ := Aside0.mk ((by rw [hg]; exact (below_size (hb_ HB.out)) : w.heap.size ≤ gb112)); have n6_ := Aside0.mk ((by rw [hg]; exact (below_size (hb_ HB.out)) : w.heap.size ≤ gb112)); have n7_ := Aside0.mk ((by rw [hg]; exact Nat.ne_of_lt (bkl_ BK107.out) : gb107 ≠ gb112)); have n8_ := Aside0.mk ((by rw [hg]; exact Nat.ne_of_gt (bkl_ BK107.out) : gb112 ≠ gb107)); have n9_ := Aside0.mk ((by rw [hg]; exact Nat.ne_of_lt (bkl_ BK108.out) : gb108 ≠ gb112)); have n10_ := Aside0.mk ((by rw [hg]; exact Nat.ne_of_gt (bkl_ BK108.out) : gb112 ≠ gb108)); clear HO111; clear BK107; clear BK108; clear HB; have HO111 := n0_; have BK107 := n1_; have BK108 := n2_; have HB := n3_; have BK112 := n4_; have GW112 := n5_; have GE112 := n6_; have NB107_112 := n7_; have NB112_107 := n8_; have NB108_112 := n9_; have NB112_108 := n10_; clear n0_ n1_ n2_ n3_ n4_ n5_ n6_ n7_ n8_ n9_ n10_; clear hb hbox hg; have hnb12 := NB112_107.out; have hnc12 := NB107_112.out; have hnb13 := NB112_108.out; have hnc13 := NB108_112.out; have hcz14_0 : w11.cell? ⟨gb112, 0, none⟩ = some (.slice none 0 0) := (blk_cell BK112.out 0).trans rfl; have hcz14_1 : w11.cell? ⟨gb112, 1, none⟩ = some (.slice none 0 0) := (blk_cell BK112.out 1).trans rfl; have hfz14_0 := blk_frozen BK112.out 0; have hfz14_1 := blk_frozen BK112.out 1))
 go_loopg [] k (fun kq w' => ∃ (x113000_1 : List (S87)) (x113001_1 : List Int) (u113000 : Value) (u113001 : Value), Aside0 (tags_runs.l0 kq l0 a2 x113000_1 x113001_1 = some (r1, r2)) ∧ Aside0 (kq ≤ k) ∧ Aside0 (Kd.R k87 87 w' w.heap.size (fun _ => True) u113000 x113000_1) ∧ Aside0 (Kd.R (Kd.int .i64) 3 w' w.heap.size (fun _ => True) u113001 x113001_1) ∧ Aside0 (w'.heap[gb107]? = some (.cells #[.int .i64 a1_0, .int .i64 a1_1] 40 (0, 0))) ∧ Aside0 (w'.heap[gb108]? = some (.cells #[(.slice none 0 0), (.slice none 0 0)] 82 (0, 0))) ∧ Aside0 (w'.heap[gb112]? = some (.cells #[u113000, u113001] 82 (0, 0))) ∧ Aside0 (Below w.heap.size w w'))
 case atStart => exact ⟨(y109), (([] : List Int)), (.slice Ao10 y109.length co10), (.slice none 0 0), H', ⟨Nat.le_refl _⟩, ⟨by (with_reducible repeat (first | apply Kd.R_alloc | apply Kd.R_drewN | apply Kd.R_drew)); exact Kd.R_mono (Kd.R_far (p := ⟨gb112, 1, none⟩) (Kd.R_far (p := ⟨gb112, 0, none⟩) (Kd.R_types HO111.out BK112.out (by decide)) (fun _ hk => hk.2) (.slice Ao10 y109.length co10)) (fun _ hk => hk.2) (.slice none 0 0)) (fun _ hk => trivial)⟩, ⟨by first | exact Kd.R_nil _ _ _ _ _ | exact Kd.N_nil _ _ _ _ _ | exact Kd.V_nil _ _ _ _ _ | exact Kd.Q_nil _ _ _ _ _ | exact Kd.S_nil _ _ _ _ _⟩, ⟨by (with_reducible repeat (first | refine blk_drewN ?_ _ | refine blk_drew ?_ | refine blk_alloc ?_ _)); refine blk_far ?_ NB107_112.out _; (with_reducible repeat (first | refine blk_drewN ?_ _ | refine blk_drew ?_ | refine blk_alloc ?_ _)); refine blk_far ?_ NB107_112.out _; (with_reducible repeat (first | refine blk_drewN ?_ _ | refine blk_drew ?_ | refine blk_alloc ?_ _)); exact BK107.out⟩, ⟨by (with_reducible repeat (first | refine blk_drewN ?_ _ | refine blk_drew ?_ | refine blk_alloc ?_ _)); refine blk_far ?_ NB108_112.out _; (with_reducible repeat (first | refine blk_drewN ?_ _ | refine blk_drew ?_ | refine blk_alloc ?_ _)); refine blk_far ?_ NB108_112.out _; (with_reducible repeat (first | refine blk_drewN ?_ _ | refine blk_drew ?_ | refine blk_alloc ?_ _)); exact BK108.out⟩, ⟨by (with_reducible repeat (first | refine blk_drewN ?_ _ | refine blk_drew ?_ | refine blk_alloc ?_ _)); refine blk_put (cs := #[.slice Ao10 y109.length co10, .slice none 0 0]) ?_ 1 _ rfl; (with_reducible repeat (first | refine blk_drewN ?_ _ | refine blk_drew ?_ | refine blk_alloc ?_ _)); refine blk_put (cs := #[.slice none 0 0, .slice none 0 0]) ?_ 0 _ rfl; (with_reducible repeat (first | refine blk_drewN ?_ _ | refine blk_drew ?_ | refine blk_alloc ?_ _)); exact BK112.out⟩, ⟨by repeat (first | (with_reducible first | exact HB.out | apply below_alloc | apply pw_below_drewN | apply below_drew1 | refine below_set ?_ GE107.out | refine below_set ?_ GE108.out | refine below_set ?_ GE112.out) | exact HB.out)⟩⟩
 case round =>
  clear H'
  try clear c1
  try clear p2
  try clear c3
  try clear c4
  try clear c6
  try clear c12
  try clear c13
  try clear hcz14_0
  try clear hcz14_1
  try clear hcz7_0
  try clear hcz7_1
  try clear hfz14_0
  try clear hfz14_1
  try clear hfz7_0
  try clear hfz7_1
  obtain ⟨x113000_1, x113001_1, u113000, u113001, HA, HK1, HO_113000, HO_113001, BK107, BK108, BK112, HB⟩ := hrel
  cases gk with
  | zero => exact absurd HA.out (by simp [tags_runs.l0])
  | succ k1 =>
   have H := HA.out
   clear HA
   simp only [tags_runs.l0] at H
   by_cases c15 : (x113001_1.length : Int) < a2
   ·rw [if_pos c15] at H
    have c15b0 : decide ((x113001_1.length : Int) < a2) = true := decide_eq_true c15
    clear c15
    obtain ⟨ji16, hji16⟩ : ∃ j_ : Int, (wrap64 ((x113000_1.length : Int) - 1)) = j_ := ⟨_, rfl⟩
    replace H : (if 0 ≤ (ji16) then (if (ji16) < (x113000_1.length : Int) then ((tags_step.f l0 ((rd_T87 x113000_1 (ji16)).f0) ((rd_T87 x113000_1 (ji16)).f1.f0) ((rd_T87 x113000_1 (ji16)).f1.f1)).bind fun bt114 => (if bt114.2.2.2.2 = true then ((some (([(⟨bt114.1, (⟨bt114.2.1, bt114.2.2.1⟩ : S40)⟩ : S87)] : List (S87)) : List (S87))).bind fun y120 => (if x113000_1.length + y120.length < 5864062014805 then ((some (([bt114.2.2.2.1] : List Int) : List Int)).bind fun y126 => (if x113001_1.length + y126.length < 17592186044416 then (tags_runs.l0 k1 l0 a2 (x113000_1 ++ y120) (x113001_1 ++ y126)) else (none))) else (none))) else (some (x113000_1, x113001_1)))) else (none)) else (none)) = some (r1, r2) := by first | (rw [hji16] at H; exact H) | (simp only [hji16] at H ⊢; exact H)
    have hji16w : (IntKind.i64.wrap ((x113000_1.length : Int) - 1)) = ji16 := (i64_w _).trans hji16
    by_cases c17 : 0 ≤ (ji16)
    ·rw [if_pos c17] at H
     have c17b0 : decide (0 ≤ (ji16)) = true := decide_eq_true c17
     clear c17
     by_cases c18 : (ji16) < (x113000_1.length : Int)
     ·rw [if_pos c18] at H
      have c18b0 : decide ((ji16) < (x113000_1.length : Int)) = true := decide_eq_true c18
      clear c18
      replace H := Option.bind_eq_some_iff.mp H
      obtain ⟨⟨t114, t115, t116, t117, t118⟩, A190, H⟩ := H
      replace H : (if t118 = true then ((some (([(⟨t114, (⟨t115, t116⟩ : S40)⟩ : S87)] : List (S87)) : List (S87))).bind fun y120 => (if x113000_1.length + y120.length < 5864062014805 then ((some (([t117] : List Int) : List Int)).bind fun y126 => (if x113001_1.length + y126.length < 17592186044416 then (tags_runs.l0 k1 l0 a2 (x113000_1 ++ y120) (x113001_1 ++ y126)) else (none))) else (none))) else (some (x113000_1, x113001_1))) = some (r1, r2) := H
      have A19 := Aside0.mk A190
      clear A190
      by_cases c20 : t118 = true
      ·subst c20
       have H1 : ((some (([(⟨t114, (⟨t115, t116⟩ : S40)⟩ : S87)] : List (S87)) : List (S87))).bind fun y120 => (if x113000_1.length + y120.length < 5864062014805 then ((some (([t117] : List Int) : List Int)).bind fun y126 => (if x113001_1.length + y126.length < 17592186044416 then (tags_runs.l0 k1 l0 a2 (x113000_1 ++ y120) (x113001_1 ++ y126)) else (none))) else (none))) = some (r1, r2) := by rw [if_pos rfl] at H; exact H
       clear H
       have H := H1
       clear H1
       obtain ⟨y120, hy120⟩ : ∃ y_ : List (S87), y_ = (([(⟨t114, (⟨t115, t116⟩ : S40)⟩ : S87)] : List (S87))) := ⟨_, rfl⟩
       replace H : (if x113000_1.length + y120.length < 5864062014805 then ((some (([t117] : List Int) : List Int)).bind fun y126 => (if x113001_1.length + y126.length < 17592186044416 then (tags_runs.l0 k1 l0 a2 (x113000_1 ++ y120) (x113001_1 ++ y126)) else (none))) else (none)) = some (r1, r2) := by first | (rw [hy120]; with_reducible exact H) | (have H2_ := (Option.bind_some _ _).symm.trans H; rw [hy120]; with_reducible exact H2_) | (have H2_ := (Option.bind_some _ _).symm.trans H; with_reducible exact H2_) | with_reducible exact H | (rw [hy120]; exact H) | exact H
       have Ny120 := Aside0.mk hy120
       clear hy120
       by_cases c21 : x113000_1.length + y120.length < 5864062014805
       ·rw [if_pos c21] at H
        have LMc21 := Aside0.mk c21
        clear c21
        obtain ⟨y123, hy123⟩ : ∃ y_ : List (S87), y_ = (x113000_1 ++ y120) := ⟨_, rfl⟩
        replace H : ((some (([t117] : List Int) : List Int)).bind fun y126 => (if x113001_1.length + y126.length < 17592186044416 then (tags_runs.l0 k1 l0 a2 y123 (x113001_1 ++ y126)) else (none))) = some (r1, r2) := by first | (rw [hy123]; with_reducible exact H) | (have H2_ := (Option.bind_some _ _).symm.trans H; rw [hy123]; with_reducible exact H2_) | (have H2_ := (Option.bind_some _ _).symm.trans H; with_reducible exact H2_) | with_reducible exact H | (rw [hy123]; exact H) | exact H
        have Ny123 := Aside0.mk hy123
        clear hy123
        obtain ⟨y126, hy126⟩ : ∃ y_ : List Int, y_ = (([t117] : List Int)) := ⟨_, rfl⟩
        replace H : (if x113001_1.length + y126.length < 17592186044416 then (tags_runs.l0 k1 l0 a2 y123 (x113001_1 ++ y126)) else (none)) = some (r1, r2) := by first | (rw [hy126]; with_reducible exact H) | (have H2_ := (Option.bind_some _ _).symm.trans H; rw [hy126]; with_reducible exact H2_) | (have H2_ := (Option.bind_some _ _).symm.trans H; with_reducible exact H2_) | with_reducible exact H | (rw [hy126]; exact H) | exact H
        have Ny126 := Aside0.mk hy126
        clear hy126
        by_cases c22 : x113001_1.length + y126.length < 17592186044416
        ·rw [if_pos c22] at H
         have LMc22 := Aside0.mk c22
         clear c22
         obtain ⟨y129, hy129⟩ : ∃ y_ : List Int, y_ = (x113001_1 ++ y126) := ⟨_, rfl⟩
         replace H : (tags_runs.l0 k1 l0 a2 y123 y129) = some (r1, r2) := by first | (rw [hy129]; with_reducible exact H) | (have H2_ := (Option.bind_some _ _).symm.trans H; rw [hy129]; with_reducible exact H2_) | (have H2_ := (Option.bind_some _ _).symm.trans H; with_reducible exact H2_) | with_reducible exact H | (rw [hy129]; exact H) | exact H
         have Ny129 := Aside0.mk hy129
         clear hy129
         have H' := Aside0.mk H
         clear H
         have hnb23 := NB112_107.out
         have hnc23 := NB107_112.out
         have hnb24 := NB112_108.out
         have hnc24 := NB108_112.out
         have hcz25_0 : wr.cell? ⟨gb112, 0, none⟩ = some (u113000) := (blk_cell BK112.out 0).trans rfl
         have hcz25_1 : wr.cell? ⟨gb112, 1, none⟩ = some (u113001) := (blk_cell BK112.out 1).trans rfl
         have hfz25_0 := blk_frozen BK112.out 0
         have hfz25_1 := blk_frozen BK112.out 1
         obtain ⟨Ao26, co26, eo26⟩ := Kd.R_slice HO_113001.out
         subst eo26
         obtain ⟨Ao27, co27, eo27⟩ := Kd.R_slice HO_113000.out
         subst eo27
         have p113 : 0 ≤ ((ji16) : Int) := of_decide_eq_true (by first | (with_reducible assumption) | assumption)
         have q113 : (ji16) < (x113000_1.length : Int) := of_decide_eq_true (by first | (with_reducible assumption) | assumption)
         obtain ⟨ad113, e113, hx113_0, hx113_1, hx113_2⟩ := at_T87 (Kd.R_reads' HO_113000.out).2.2 (ji16) p113 q113
         cases e113
         replace p113 := eq_true p113
         replace q113 := eq_true q113
         try go_wp2_with (first | ((with_reducible refine gate_callee (f := 67) rfl ?_); refine goesL_ (some 30) rfl rfl Try.func67 (by kernel_rfl) rfl #[.slice A0 l0.length c0, .agg #[.int .i64 ((rd_T87 x113000_1 (ji16)).f0), .int .i64 ((rd_T87 x113000_1 (ji16)).f1.f0), .int .i64 ((rd_T87 x113000_1 (ji16)).f1.f1)]] rfl (by (try simp only [List.map_toArray, List.map_cons, List.map_nil]); first | done | (simp only [hji16]; rfl) | rfl | (simp only [List.length_drop, List.length_take]; rfl)) ?_; (with_reducible refine (tags_step.calls _ _ l0 ((rd_T87 x113000_1 (ji16)).f0) ((rd_T87 x113000_1 (ji16)).f1.f0) ((rd_T87 x113000_1 (ji16)).f1.f1) t114 t115 t116 t117 true _ ?side1 ?side2 A19.out).mono ?_); (case side1 => exact kc_ (Kd.C_below HR0.out HB.out)); (case side2 => exact HC0.out); rintro e w28 ⟨rfl, hb⟩; refine ⟨_, rfl, ?_⟩; have n0_ := Aside0.mk (Kd.R_below (kr_ (HO_113000.out)) hb); have n1_ := Aside0.mk (Kd.R_below (kr_ (HO_113001.out)) hb); have n2_ := Aside0.mk (bkb_ BK107.out hb); have n3_ := Aside0.mk (bkb_ BK108.out hb); have n4_ := Aside0.mk (bkb_ BK112.out hb); have n5_ := Aside0.mk (below_step (hb_ HB.out) hb); clear HO_113000; clear HO_113001; clear BK107; clear BK108; clear BK112; clear HB; have HO_113000 := n0_; have HO_113001 := n1_; have BK107 := n2_; have BK108 := n3_; have BK112 := n4_; have HB := n5_; clear n0_ n1_ n2_ n3_ n4_ n5_; (try clear hb); (try clear hb2); (try clear hk); (try clear hi)) | ((with_reducible refine gate_dst (N := 8) rfl ?_); refine box_event ?hg (N := 8) ?hd (cs := #[.int .i64 0, .int .i64 0, .int .i64 0]) (t := 87) ?hr ?_; (case hd => rfl); (case hg => rfl); (case hr => first | (go_simp; done) | (go_simp; rfl)); intro gb119 hg w29 hbox hb; have n0_ := Aside0.mk (Kd.R_below (Kd.R_elderB (kr_ (HO_113000.out)) gb119 (Nat.le_of_eq hg.symm)) hb); have n1_ := Aside0.mk (Kd.R_below (kr_ (HO_113001.out)) hb); have n2_ := Aside0.mk (bkb_ BK107.out hb); have n3_ := Aside0.mk (bkb_ BK108.out hb); have n4_ := Aside0.mk (bkb_ BK112.out hb); have n5_ := Aside0.mk (below_step (hb_ HB.out) hb); have n6_ := Aside0.mk (hbox); have n7_ := Aside0.mk ((by rw [hg]; exact (below_size (hb_ HB.out)) : w.heap.size ≤ gb119)); have n8_ := Aside0.mk ((by rw [hg]; exact (below_size (hb_ HB.out)) : w.heap.size ≤ gb119)); have n9_ := Aside0.mk ((by rw [hg]; exact Nat.ne_of_lt (bkl_ BK107.out) : gb107 ≠ gb119)); have n10_ := Aside0.mk ((by rw [hg]; exact Nat.ne_of_gt (bkl_ BK107.out) : gb119 ≠ gb107)); have n11_ := Aside0.mk ((by rw [hg]; exact Nat.ne_of_lt (bkl_ BK108.out) : gb108 ≠ gb119)); have n12_ := Aside0.mk ((by rw [hg]; exact Nat.ne_of_gt (bkl_ BK108.out) : gb119 ≠ gb108)); have n13_ := Aside0.mk ((by rw [hg]; exact Nat.ne_of_lt (bkl_ BK112.out) : gb112 ≠ gb119)); have n14_ := Aside0.mk ((by rw [hg]; exact Nat.ne_of_gt (bkl_ BK112.out) : gb119 ≠ gb112)); clear HO_113000; clear HO_113001; clear BK107; clear BK108; clear BK112; clear HB; have HO_113000 := n0_; have HO_113001 := n1_; have BK107 := n2_; have BK108 := n3_; have BK112 := n4_; have HB := n5_; have BK119 := n6_; have GW119 := n7_; have GE119 := n8_; have NB107_119 := n9_; have NB119_107 := n10_; have NB108_119 := n11_; have NB119_108 := n12_; have NB112_119 := n13_; have NB119_112 := n14_; clear n0_ n1_ n2_ n3_ n4_ n5_ n6_ n7_ n8_ n9_ n10_ n11_ n12_ n13_ n14_; clear hb hbox hg; have hnb30 := NB119_107.out; have hnc30 := NB107_119.out; have hnb31 := NB119_108.out; have hnc31 := NB108_119.out; have hnb32 := NB119_112.out; have hnc32 := NB112_119.out; have hcz33_0 : w29.cell? ⟨gb119, 0, none⟩ = some (.int .i64 0) := (blk_cell BK119.out 0).trans rfl; have hcz33_1 : w29.cell? ⟨gb119, 1, none⟩ = some (.int .i64 0) := (blk_cell BK119.out 1).trans rfl; have hcz33_2 : w29.cell? ⟨gb119, 2, none⟩ = some (.int .i64 0) := (blk_cell BK119.out 2).trans rfl; have hfz33_0 := blk_frozen BK119.out 0; have hfz33_1 := blk_frozen BK119.out 1; have hfz33_2 := blk_frozen BK119.out 2))
         have n0_ : Aside0 (Kd.R k87 87 (((w29.setCell ⟨gb119, 0, none⟩ (.int .i64 t114)).setCell ⟨gb119, 1, none⟩ (.int .i64 t115)).setCell ⟨gb119, 2, none⟩ (.int .i64 t116)) w.heap.size (fun k_ => k_ ≠ gb119) (.slice (some ad113) x113000_1.length co27) x113000_1) := ⟨by (with_reducible repeat (first | apply Kd.R_alloc | apply Kd.R_drewN | apply Kd.R_drew)); exact Kd.R_mono (Kd.R_far (p := ⟨gb119, 2, none⟩) (Kd.R_far (p := ⟨gb119, 1, none⟩) (Kd.R_far (p := ⟨gb119, 0, none⟩) (Kd.R_mono HO_113000.out (fun k_ hk => (⟨hk, hk.2⟩ : _ ∧ k_ ≠ gb119))) (fun _ hk => hk.2) (.int .i64 t114)) (fun _ hk => hk.2) (.int .i64 t115)) (fun _ hk => hk.2) (.int .i64 t116)) (fun _ hk => hk.1.2)⟩
         have n1_ : Aside0 (Kd.R (Kd.int .i64) 3 (((w29.setCell ⟨gb119, 0, none⟩ (.int .i64 t114)).setCell ⟨gb119, 1, none⟩ (.int .i64 t115)).setCell ⟨gb119, 2, none⟩ (.int .i64 t116)) w.heap.size (fun _ => True) (.slice Ao26 x113001_1.length co26) x113001_1) := ⟨by (with_reducible repeat (first | apply Kd.R_alloc | apply Kd.R_drewN | apply Kd.R_drew)); exact Kd.R_mono (Kd.R_far (p := ⟨gb119, 2, none⟩) (Kd.R_far (p := ⟨gb119, 1, none⟩) (Kd.R_far (p := ⟨gb119, 0, none⟩) (Kd.R_types HO_113001.out BK119.out (by decide)) (fun _ hk => hk.2) (.int .i64 t114)) (fun _ hk => hk.2) (.int .i64 t115)) (fun _ hk => hk.2) (.int .i64 t116)) (fun _ hk => trivial)⟩
         have n2_ : Aside0 ((((w29.setCell ⟨gb119, 0, none⟩ (.int .i64 t114)).setCell ⟨gb119, 1, none⟩ (.int .i64 t115)).setCell ⟨gb119, 2, none⟩ (.int .i64 t116)).heap[gb107]? = some (.cells #[.int .i64 a1_0, .int .i64 a1_1] 40 (0, 0))) := ⟨by (with_reducible repeat (first | refine blk_drewN ?_ _ | refine blk_drew ?_ | refine blk_alloc ?_ _)); refine blk_far ?_ NB107_119.out _; (with_reducible repeat (first | refine blk_drewN ?_ _ | refine blk_drew ?_ | refine blk_alloc ?_ _)); refine blk_far ?_ NB107_119.out _; (with_reducible repeat (first | refine blk_drewN ?_ _ | refine blk_drew ?_ | refine blk_alloc ?_ _)); refine blk_far ?_ NB107_119.out _; (with_reducible repeat (first | refine blk_drewN ?_ _ | refine blk_drew ?_ | refine blk_alloc ?_ _)); exact BK107.out⟩
         have n3_ : Aside0 ((((w29.setCell ⟨gb119, 0, none⟩ (.int .i64 t114)).setCell ⟨gb119, 1, none⟩ (.int .i64 t115)).setCell ⟨gb119, 2, none⟩ (.int .i64 t116)).heap[gb108]? = some (.cells #[.slice none 0 0, .slice none 0 0] 82 (0, 0))) := ⟨by (with_reducible repeat (first | refine blk_drewN ?_ _ | refine blk_drew ?_ | refine blk_alloc ?_ _)); refine blk_far ?_ NB108_119.out _; (with_reducible repeat (first | refine blk_drewN ?_ _ | refine blk_drew ?_ | refine blk_alloc ?_ _)); refine blk_far ?_ NB108_119.out _; (with_reducible repeat (first | refine blk_drewN ?_ _ | refine blk_drew ?_ | refine blk_alloc ?_ _)); refine blk_far ?_ NB108_119.out _; (with_reducible repeat (first | refine blk_drewN ?_ _ | refine blk_drew ?_ | refine blk_alloc ?_ _)); exact BK108.out⟩
         have n4_ : Aside0 ((((w29.setCell ⟨gb119, 0, none⟩ (.int .i64 t114)).setCell ⟨gb119, 1, none⟩ (.int .i64 t115)).setCell ⟨gb119, 2, none⟩ (.int .i64 t116)).heap[gb112]? = some (.cells #[.slice (some ad113) x113000_1.length co27, .slice Ao26 x113001_1.length co26] 82 (0, 0))) := ⟨by (with_reducible repeat (first | refine blk_drewN ?_ _ | refine blk_drew ?_ | refine blk_alloc ?_ _)); refine blk_far ?_ NB112_119.out _; (with_reducible repeat (first | refine blk_drewN ?_ _ | refine blk_drew ?_ | refine blk_alloc ?_ _)); refine blk_far ?_ NB112_119.out _; (with_reducible repeat (first | refine blk_drewN ?_ _ | refine blk_drew ?_ | refine blk_alloc ?_ _)); refine blk_far ?_ NB112_119.out _; (with_reducible repeat (first | refine blk_drewN ?_ _ | refine blk_drew ?_ | refine blk_alloc ?_ _)); exact BK112.out⟩
         have n5_ : Aside0 ((((w29.setCell ⟨gb119, 0, none⟩ (.int .i64 t114)).setCell ⟨gb119, 1, none⟩ (.int .i64 t115)).setCell ⟨gb119, 2, none⟩ (.int .i64 t116)).heap[gb119]? = some (.cells #[.int .i64 t114, .int .i64 t115, .int .i64 t116] 87 (0, 0))) := ⟨by (with_reducible repeat (first | refine blk_drewN ?_ _ | refine blk_drew ?_ | refine blk_alloc ?_ _)); refine blk_put (cs := #[.int .i64 t114, .int .i64 t115, .int .i64 0]) ?_ 2 _ rfl; (with_reducible repeat (first | refine blk_drewN ?_ _ | refine blk_drew ?_ | refine blk_alloc ?_ _)); refine blk_put (cs := #[.int .i64 t114, .int .i64 0, .int .i64 0]) ?_ 1 _ rfl; (with_reducible repeat (first | refine blk_drewN ?_ _ | refine blk_drew ?_ | refine blk_alloc ?_ _)); refine blk_put (cs := #[.int .i64 0, .int .i64 0, .int .i64 0]) ?_ 0 _ rfl; (with_reducible repeat (first | refine blk_drewN ?_ _ | refine blk_drew ?_ | refine blk_alloc ?_ _)); exact BK119.out⟩
         have n6_ : Aside0 (Below w.heap.size w (((w29.setCell ⟨gb119, 0, none⟩ (.int .i64 t114)).setCell ⟨gb119, 1, none⟩ (.int .i64 t115)).setCell ⟨gb119, 2, none⟩ (.int .i64 t116))) := ⟨by repeat (first | (with_reducible first | exact HB.out | apply below_alloc | apply pw_below_drewN | apply below_drew1 | refine below_set ?_ GE107.out | refine below_set ?_ GE108.out | refine below_set ?_ GE112.out | refine below_set ?_ GE119.out) | exact HB.out)⟩
         (try clear HO_113000)
         (try clear HO_113001)
         (try clear BK107)
         (try clear BK108)
         (try clear BK112)
         (try clear BK119)
         (try clear HB)
         generalize (((w29.setCell ⟨gb119, 0, none⟩ (.int .i64 t114)).setCell ⟨gb119, 1, none⟩ (.int .i64 t115)).setCell ⟨gb119, 2, none⟩ (.int .i64 t116)) = w34 at n0_ n1_ n2_ n3_ n4_ n5_ n6_ ⊢
         have HO_113000 := n0_
         have HO_113001 := n1_
         have BK107 := n2_
         have BK108 := n3_
         have BK112 := n4_
         have BK119 := n5_
         have HB := n6_
         clear n0_ n1_ n2_ n3_ n4_ n5_ n6_
         have n0_ := Aside0.mk (Kd.R_drew HO_113000.out)
         have n1_ := Aside0.mk (Kd.R_drew HO_113001.out)
         have n2_ := Aside0.mk (blk_drew BK107.out)
         have n3_ := Aside0.mk (blk_drew BK108.out)
         have n4_ := Aside0.mk (blk_drew BK112.out)
         have n5_ := Aside0.mk (blk_drew BK119.out)
         have n6_ := Aside0.mk (below_drew1 HB.out)
         clear HO_113000
         clear HO_113001
         clear BK107
         clear BK108
         clear BK112
         clear BK119
         clear HB
         have HO_113000 := n0_
         have HO_113001 := n1_
         have BK107 := n2_
         have BK108 := n3_
         have BK112 := n4_
         have BK119 := n5_
         have HB := n6_
         clear n0_ n1_ n2_ n3_ n4_ n5_ n6_
         refine start_ (n := 14) (S := fun w' => w'.cell? ⟨gb112, 0, none⟩ = some (.slice (some ad113) x113000_1.length co27) ∧ w'.cell? ⟨gb112, 1, none⟩ = some (.slice Ao26 x113001_1.length co26) ∧ w'.cell? ⟨gb119, 0, none⟩ = some (.int .i64 t114) ∧ w'.cell? ⟨gb119, 1, none⟩ = some (.int .i64 t115) ∧ w'.cell? ⟨gb119, 2, none⟩ = some (.int .i64 t116)) (ds := [11, 13]) #[false, false, false, false, false, false, false, false, false, false, false, false, false, false] (by kernel_rfl) rfl rfl ⟨(blk_cell BK112.out 0).trans rfl, (blk_cell BK112.out 1).trans rfl, (blk_cell BK119.out 0).trans rfl, (blk_cell BK119.out 1).trans rfl, (blk_cell BK119.out 2).trans rfl⟩ (fun hHeld => ?_); refine with_tabW tags_runs.tab5 tags_runs.bits5 (fun HT_ HW_ => ?_)
         generalize w34.drew = w35 at HO_113000 HO_113001 BK107 BK108 BK112 BK119 HB hHeld ⊢
         refine pure_ (i := 0) (N := some 36) (v := ?_) (a' := ?_) #[true, false, false, false, false, false, false, false, false, false, false, false, false, false] rfl rfl (any_of HT_.out (by kernel_rfl)) (fun _ _ _ h => h) (Or.inl ⟨by rfl, ?_⟩) ?_ ?_
         rotate_left
         ·intro w'
          go_simp
          with_reducible rfl
         rotate_left
         ·simp only [Act.put, List.setIfInBounds_toArray, List.set_cons_zero, List.set_cons_succ, i64_w, i32_w]
          rfl
         refine pure_ (i := 5) (N := some 41) (v := ?_) (a' := ?_) #[true, false, false, false, false, true, false, false, false, false, false, false, false, false] rfl rfl (any_of HT_.out (by kernel_rfl)) (fun _ _ _ h => h) (Or.inl ⟨by rfl, ?_⟩) ?_ ?_
         rotate_left
         ·intro w'
          go_simp
          with_reducible rfl
         rotate_left
         ·simp only [Act.put, List.setIfInBounds_toArray, List.set_cons_zero, List.set_cons_succ, i64_w, i32_w]
          rfl
         refine pure_ (i := 7) (N := some 43) (v := ?_) (a' := ?_) #[true, false, false, false, false, true, false, true, false, false, false, false, false, false] rfl rfl (any_of HT_.out (by kernel_rfl)) (fun _ _ _ h => h) (Or.inl ⟨by rfl, ?_⟩) ?_ ?_
         rotate_left
         ·intro w'
          go_simp
          with_reducible rfl
         rotate_left
         ·simp only [Act.put, List.setIfInBounds_toArray, List.set_cons_zero, List.set_cons_succ, i64_w, i32_w]
          rfl
         refine take_ (i := 1) (N := some 37) (v := ?_) (a' := ?_) #[true, true, false, false, false, true, false, true, false, false, false, false, false, false] rfl rfl (take_ofW HT_.out HW_.out (by kernel_rfl)) (fun _ _ _ h => h) (Or.inl ⟨by rfl, ?_⟩) hHeld ?_ ?_
         rotate_left
         ·rintro w' ⟨s0, s1, s2, s3, s4⟩
          go_simp
          with_reducible rfl
         rotate_left
         ·simp only [Act.put, List.setIfInBounds_toArray, List.set_cons_zero, List.set_cons_succ, i64_w, i32_w]
          rfl
         refine take_ (i := 2) (N := some 38) (v := ?_) (a' := ?_) #[true, true, true, false, false, true, false, true, false, false, false, false, false, false] rfl rfl (take_ofW HT_.out HW_.out (by kernel_rfl)) (fun _ _ _ h => h) (Or.inl ⟨by rfl, ?_⟩) hHeld ?_ ?_
         rotate_left
         ·rintro w' ⟨s0, s1, s2, s3, s4⟩
          go_simp
          with_reducible rfl
         rotate_left
         ·simp only [Act.put, List.setIfInBounds_toArray, List.set_cons_zero, List.set_cons_succ, i64_w, i32_w]
          rfl
         refine take_ (i := 6) (N := some 42) (v := ?_) (a' := ?_) #[true, true, true, false, false, true, true, true, false, false, false, false, false, false] rfl rfl (take_ofW HT_.out HW_.out (by kernel_rfl)) (fun _ _ _ h => h) (Or.inl ⟨by rfl, ?_⟩) hHeld ?_ ?_
         rotate_left
         ·rintro w' ⟨s0, s1, s2, s3, s4⟩
          go_simp
          with_reducible rfl
         rotate_left
         ·simp only [Act.put, List.setIfInBounds_toArray, List.set_cons_zero, List.set_cons_succ, i64_w, i32_w]
          rfl
         refine join_ (σ := Value × Value × Value) 4 #[true, true, true, true, true, true, true, true, true, false, true, false, false, false] (fun s_ => [(39, s_.1), (40, s_.2.1), (44, s_.2.2), (46, .pointer (some ⟨gb112, 0, none⟩))]) (fun s_ w' => (w'.cell? ⟨gb112, 0, none⟩ = some (.slice (some ad113) x113000_1.length co27) ∧ w'.cell? ⟨gb112, 1, none⟩ = some (.slice Ao26 x113001_1.length co26) ∧ w'.cell? ⟨gb119, 0, none⟩ = some (.int .i64 t114) ∧ w'.cell? ⟨gb119, 1, none⟩ = some (.int .i64 t115) ∧ w'.cell? ⟨gb119, 2, none⟩ = some (.int .i64 t116)) ∧ (Kd.R k87 87 w' w.heap.size (fun k_ => some k_ ≠ (s_.2.1 : Value).ownBlock ∧ k_ ≠ gb119) s_.1 y120) ∧ (Kd.R k87 87 w' w.heap.size (fun k_ => some k_ ≠ (s_.1 : Value).ownBlock ∧ k_ ≠ gb119) s_.2.1 y123) ∧ (Kd.R (Kd.int .i64) 3 w' w.heap.size (fun k_ => some k_ ≠ (.slice Ao26 x113001_1.length co26 : Value).ownBlock) s_.2.2 y126) ∧ (Kd.R (Kd.int .i64) 3 w' w.heap.size (fun k_ => some k_ ≠ (s_.2.2 : Value).ownBlock) (.slice Ao26 x113001_1.length co26) x113001_1) ∧ (w'.heap[gb107]? = some (.cells #[.int .i64 a1_0, .int .i64 a1_1] 40 (0, 0))) ∧ (w'.heap[gb108]? = some (.cells #[.slice none 0 0, .slice none 0 0] 82 (0, 0))) ∧ (w'.heap[gb112]? = some (.cells #[.slice (some ad113) x113000_1.length co27, .slice Ao26 x113001_1.length co26] 82 (0, 0))) ∧ (w'.heap[gb119]? = some (.cells #[.int .i64 t114, .int .i64 t115, .int .i64 t116] 87 (0, 0))) ∧ (Below w.heap.size w w')) ?_ ?_
         rotate_left
         ·intro hCont
          refine two_ (i := 3) (j := 8) (Ni := some 39) (Nj := some 44) #[true, true, true, true, false, true, true, true, false, false, false, false, false, false] #[true, true, true, false, false, true, true, true, true, false, false, false, false, false] rfl rfl rfl rfl (two_of HT_.out (by kernel_rfl)) (by decide) (by decide) (fun K hK => ?_) (fun K hK => ?_)
          ·skip
           refine Kd.R_lit_step k87 _ 87 ?hg (N := 39) ?hd (xs := ([(⟨t114, (⟨t115, t116⟩ : S40)⟩ : S87)] : List (S87))) (inner := [.int .i64 t114, .int .i64 t115, .int .i64 t116]) (ok := fun _ => True) (okp := fun _ => True) ?hr ?hp (fun _ hk => hk) trivial (Below.refl _ _) (Nat.le_refl _) (by simp) ?_; (case hd => rfl); (case hg => rfl); (case hr => first | (go_simp; done) | (go_simp; rfl)); (case hp => exact (Reps.c3 (show Kd.M k87 _ _ _ (⟨t114, (⟨t115, t116⟩ : S40)⟩ : S87) [.int .i64 t114, .int .i64 t115, .int .i64 t116] from (k87_mkM _ _ _ (⟨t114, (⟨t115, t116⟩ : S40)⟩ : S87) )) (Reps.none _ _)))
           intro v121 w36 ho37 hb hg_ hnew_
           clear hg_ hnew_
           (first | rw [← Ny120.out] at ho37 | (simp only [Int.reduceToNat] at ho37; rw [← Ny120.out] at ho37))
           have n0_ := Aside0.mk (Kd.R_elder' (kr_ (HO_113000.out)) (Kd.R_base ho37) hb)
           have n1_ := Aside0.mk (Kd.R_below (kr_ (HO_113001.out)) hb)
           have n2_ := Aside0.mk (Kd.R_lower (Kd.R_newB (Kd.R_new' ho37 (Kd.R_lt (kr_ (HO_113000.out)))) (g := gb119) (o := .cells #[.int .i64 t114, .int .i64 t115, .int .i64 t116] 87 (0, 0)) (bk_ BK119.out)) (below_size (hb_ HB.out)))
           have n3_ := Aside0.mk (bkb_ BK107.out hb)
           have n4_ := Aside0.mk (bkb_ BK108.out hb)
           have n5_ := Aside0.mk (bkb_ BK112.out hb)
           have n6_ := Aside0.mk (bkb_ BK119.out hb)
           have n7_ := Aside0.mk (below_step (hb_ HB.out) hb)
           clear HO_113000
           clear HO_113001
           clear BK107
           clear BK108
           clear BK112
           clear BK119
           clear HB
           have HO_113000 := n0_
           have HO_113001 := n1_
           have HO122 := n2_
           have BK107 := n3_
           have BK108 := n4_
           have BK112 := n5_
           have BK119 := n6_
           have HB := n7_
           clear n0_ n1_ n2_ n3_ n4_ n5_ n6_ n7_
           clear hb ho37
           obtain ⟨Ao39, co39, eo39⟩ := Kd.R_slice HO122.out
           (first | subst eo39 | (injection eo39 with f1_ f2_ f3_; have f4_ := f1_.symm; have f5_ := f3_.symm; clear f1_ f2_ f3_; subst f4_; subst f5_))
           refine hK.out _ _ ⟨(blk_cell BK112.out 0).trans rfl, (blk_cell BK112.out 1).trans rfl, (blk_cell BK119.out 0).trans rfl, (blk_cell BK119.out 1).trans rfl, (blk_cell BK119.out 2).trans rfl⟩ (fun hHeld => ?_)
           clear hK K
           refine norm_ (a' := ?_) ?_ ?_
           rotate_left
           ·show Act.put _ (some 39) _ = _
            simp only [Act.put, List.setIfInBounds_toArray, List.set_cons_zero, List.set_cons_succ, i64_w, i32_w]
            rfl
           refine two_ (i := 4) (j := 8) (Ni := some 40) (Nj := some 44) #[true, true, true, true, true, true, true, true, false, false, false, false, false, false] #[true, true, true, true, false, true, true, true, true, false, false, false, false, false] rfl rfl rfl rfl (two_of HT_.out (by kernel_rfl)) (by decide) (by decide) (fun K hK => ?_) (fun K hK => ?_)
           ·skip
            refine Kd.R_append_rows_step k87 (w0 := w) w.heap.size (by rfl) (.tmp 37) (.tmp 39) 80 87 (.agg #[(.int .i64 0), (.int .i64 0), (.int .i64 0)]) 24 rfl Try.underlying80 info87 rfl (by decide) (by omega) (.slice (some ad113) x113000_1.length co27) x113000_1 y120 _ _ _ (fun k_ => some k_ ≠ (.slice Ao39 y120.length co39 : Value).ownBlock ∧ k_ ≠ gb119) (fun _ => False) rfl rfl ?aO ?aR (fun _ _ h => h) (fun _ h => h.elim) ?aF ?aB ?aS ?aL ?_
            (case aR => exact kc_ (Kd.R_reads' HO122.out).2.2)
            (case aB => exact (hb_ HB.out))
            (case aF => exact (fun k_ hk => ⟨Kd.fresh' (Kd.R_lt (kr_ (HO122.out))) k_ hk, Kd.freshB (g := gb119) (o := .cells #[.int .i64 t114, .int .i64 t115, .int .i64 t116] 87 (0, 0)) (bk_ BK119.out) k_ hk⟩))
            (case aO => exact (by (with_reducible repeat (first | apply Kd.R_alloc | apply Kd.R_drewN | apply Kd.R_drew)); exact Kd.R_mono HO_113000.out (fun _ hk => ⟨hk.2, hk.1⟩)))
            (case aS => exact (below_size (hb_ HB.out)))
            (case aL => have := LMc21.out; omega)
            intro v124 w38 ho hb hg hat
            rw [← Ny123.out] at ho
            have n0_ := Aside0.mk (Kd.R_over' (kr_ (HO_113001.out)) (Kd.R_typed (kr_ (HO_113000.out))) (by decide) hg)
            have n1_ := Aside0.mk (blk_grown (g := gb107) (o := .cells #[.int .i64 a1_0, .int .i64 a1_1] 40 (0, 0)) (bk_ BK107.out) hg (Kd.R_ne HO_113000.out BK107.out (by decide)))
            have n2_ := Aside0.mk (blk_grown (g := gb108) (o := .cells #[.slice none 0 0, .slice none 0 0] 82 (0, 0)) (bk_ BK108.out) hg (Kd.R_ne HO_113000.out BK108.out (by decide)))
            have n3_ := Aside0.mk (blk_grown (g := gb112) (o := .cells #[.slice (some ad113) x113000_1.length co27, .slice Ao26 x113001_1.length co26] 82 (0, 0)) (bk_ BK112.out) hg (Kd.R_ne HO_113000.out BK112.out (by decide)))
            have n4_ := Aside0.mk (blk_grown (g := gb119) (o := .cells #[.int .i64 t114, .int .i64 t115, .int .i64 t116] 87 (0, 0)) (bk_ BK119.out) hg (Kd.R_away HO_113000.out (fun _ hk => hk.1)))
            have n5_ := Aside0.mk (Kd.R_after (ok := (fun k_ => k_ ≠ gb119)) (by (with_reducible repeat (first | apply Kd.R_alloc | apply Kd.R_drewN | apply Kd.R_drew)); exact Kd.R_mono HO122.out (fun _ hk => ⟨hk.2, hk.1.2⟩)) hg hat)
            have n6_ := Aside0.mk (hb)
            have n7_ := Aside0.mk (ho)
            clear HO_113001
            clear BK107
            clear BK108
            clear BK112
            clear BK119
            clear HO122
            clear HB
            clear HO_113000
            have HO_113001 := n0_
            have BK107 := n1_
            have BK108 := n2_
            have BK112 := n3_
            have BK119 := n4_
            have HO122 := n5_
            have HB := n6_
            have HO125 := n7_
            clear n0_ n1_ n2_ n3_ n4_ n5_ n6_ n7_
            clear ho hb hg hat
            refine hK.out _ _ ⟨(blk_cell BK112.out 0).trans rfl, (blk_cell BK112.out 1).trans rfl, (blk_cell BK119.out 0).trans rfl, (blk_cell BK119.out 1).trans rfl, (blk_cell BK119.out 2).trans rfl⟩ (fun hHeld => ?_)
            clear hK K
            refine norm_ (a' := ?_) ?_ ?_
            rotate_left
            ·show Act.put _ (some 40) _ = _
             simp only [Act.put, List.setIfInBounds_toArray, List.set_cons_zero, List.set_cons_succ, i64_w, i32_w]
             rfl
            refine pure_ (i := 10) (N := some 46) (v := ?_) (a' := ?_) #[true, true, true, true, true, true, true, true, false, false, true, false, false, false] rfl rfl (any_of HT_.out (by kernel_rfl)) (fun _ _ _ h => h) (Or.inl ⟨by rfl, ?_⟩) ?_ ?_
            rotate_left
            ·intro w'
             go_simp
             with_reducible rfl
            rotate_left
            ·simp only [Act.put, List.setIfInBounds_toArray, List.set_cons_zero, List.set_cons_succ, i64_w, i32_w]
             rfl
            refine one_ (i := 8) (N := some 44) #[true, true, true, true, true, true, true, true, true, false, true, false, false, false] rfl rfl (one_of HT_.out (by kernel_rfl)) (by decide) (fun K hK => ?_)
            refine Kd.R_lit_step (Kd.int .i64) _ 3 ?hg (N := 44) ?hd (xs := ([t117] : List Int)) (inner := [.int .i64 t117]) (ok := fun _ => True) (okp := fun _ => True) ?hr ?hp (fun _ hk => hk) trivial (Below.refl _ _) (Nat.le_refl _) (by simp) ?_; (case hd => rfl); (case hg => rfl); (case hr => first | (go_simp; done) | (go_simp; rfl)); (case hp => exact (Reps.one (show Kd.M (Kd.int .i64) _ _ _ t117 [.int .i64 t117] from rfl) (Reps.none _ _)))
            intro v127 w40 ho41 hb hg_ hnew_
            clear hg_ hnew_
            (first | rw [← Ny126.out] at ho41 | (simp only [Int.reduceToNat] at ho41; rw [← Ny126.out] at ho41))
            have n0_ := Aside0.mk (Kd.R_elder' (kr_ (HO_113001.out)) (Kd.R_base ho41) hb)
            have n1_ := Aside0.mk (Kd.R_below (kr_ (HO122.out)) hb)
            have n2_ := Aside0.mk (Kd.R_below (kr_ (HO125.out)) hb)
            have n3_ := Aside0.mk (Kd.R_lower (Kd.R_new' ho41 (Kd.R_lt (kr_ (HO_113001.out)))) (below_size (hb_ HB.out)))
            have n4_ := Aside0.mk (bkb_ BK107.out hb)
            have n5_ := Aside0.mk (bkb_ BK108.out hb)
            have n6_ := Aside0.mk (bkb_ BK112.out hb)
            have n7_ := Aside0.mk (bkb_ BK119.out hb)
            have n8_ := Aside0.mk (below_step (hb_ HB.out) hb)
            clear HO_113001
            clear HO122
            clear HO125
            clear BK107
            clear BK108
            clear BK112
            clear BK119
            clear HB
            have HO_113001 := n0_
            have HO122 := n1_
            have HO125 := n2_
            have HO128 := n3_
            have BK107 := n4_
            have BK108 := n5_
            have BK112 := n6_
            have BK119 := n7_
            have HB := n8_
            clear n0_ n1_ n2_ n3_ n4_ n5_ n6_ n7_ n8_
            clear hb ho41
            refine hK.out _ _ ⟨(blk_cell BK112.out 0).trans rfl, (blk_cell BK112.out 1).trans rfl, (blk_cell BK119.out 0).trans rfl, (blk_cell BK119.out 1).trans rfl, (blk_cell BK119.out 2).trans rfl⟩ (fun hHeld => ?_)
            clear hK K
            refine norm_ (a' := ?_) ?_ ?_
            rotate_left
            ·show Act.put _ (some 44) _ = _
             simp only [Act.put, List.setIfInBounds_toArray, List.set_cons_zero, List.set_cons_succ, i64_w, i32_w]
             rfl
            exact norm_ (by simp only [putAll, Act.put, List.setIfInBounds_toArray, List.set_cons_zero, List.set_cons_succ]) (hCont (.slice Ao39 y120.length co39, v124, v127) _ ⟨hHeld, (by (with_reducible repeat (first | apply Kd.R_alloc | apply Kd.R_drewN | apply Kd.R_drew)); exact Kd.R_mono HO122.out (fun _ hk => ⟨hk.2, hk.1⟩)), (kr_ (HO125.out)), (by (with_reducible repeat (first | apply Kd.R_alloc | apply Kd.R_drewN | apply Kd.R_drew)); exact Kd.R_mono HO128.out (fun _ hk => hk.2)), (by (with_reducible repeat (first | apply Kd.R_alloc | apply Kd.R_drewN | apply Kd.R_drew)); exact Kd.R_mono HO_113001.out (fun _ hk => hk.2)), (bk_ BK107.out), (bk_ BK108.out), (bk_ BK112.out), (bk_ BK119.out), (hb_ HB.out)⟩)
           ·skip
            refine Kd.R_lit_step (Kd.int .i64) _ 3 ?hg (N := 44) ?hd (xs := ([t117] : List Int)) (inner := [.int .i64 t117]) (ok := fun _ => True) (okp := fun _ => True) ?hr ?hp (fun _ hk => hk) trivial (Below.refl _ _) (Nat.le_refl _) (by simp) ?_; (case hd => rfl); (case hg => rfl); (case hr => first | (go_simp; done) | (go_simp; rfl)); (case hp => exact (Reps.one (show Kd.M (Kd.int .i64) _ _ _ t117 [.int .i64 t117] from rfl) (Reps.none _ _)))
            intro v127 w38 ho39 hb hg_ hnew_
            clear hg_ hnew_
            (first | rw [← Ny126.out] at ho39 | (simp only [Int.reduceToNat] at ho39; rw [← Ny126.out] at ho39))
            have n0_ := Aside0.mk (Kd.R_below (kr_ (HO_113000.out)) hb)
            have n1_ := Aside0.mk (Kd.R_elder' (kr_ (HO_113001.out)) (Kd.R_base ho39) hb)
            have n2_ := Aside0.mk (Kd.R_below (kr_ (HO122.out)) hb)
            have n3_ := Aside0.mk (Kd.R_lower (Kd.R_new' ho39 (Kd.R_lt (kr_ (HO_113001.out)))) (below_size (hb_ HB.out)))
            have n4_ := Aside0.mk (bkb_ BK107.out hb)
            have n5_ := Aside0.mk (bkb_ BK108.out hb)
            have n6_ := Aside0.mk (bkb_ BK112.out hb)
            have n7_ := Aside0.mk (bkb_ BK119.out hb)
            have n8_ := Aside0.mk (below_step (hb_ HB.out) hb)
            clear HO_113000
            clear HO_113001
            clear HO122
            clear BK107
            clear BK108
            clear BK112
            clear BK119
            clear HB
            have HO_113000 := n0_
            have HO_113001 := n1_
            have HO122 := n2_
            have HO128 := n3_
            have BK107 := n4_
            have BK108 := n5_
            have BK112 := n6_
            have BK119 := n7_
            have HB := n8_
            clear n0_ n1_ n2_ n3_ n4_ n5_ n6_ n7_ n8_
            clear hb ho39
            obtain ⟨Ao41, co41, eo41⟩ := Kd.R_slice HO122.out
            (first | subst eo41 | (injection eo41 with f1_ f2_ f3_; have f4_ := f1_.symm; have f5_ := f3_.symm; clear f1_ f2_ f3_; subst f4_; subst f5_))
            refine hK.out _ _ ⟨(blk_cell BK112.out 0).trans rfl, (blk_cell BK112.out 1).trans rfl, (blk_cell BK119.out 0).trans rfl, (blk_cell BK119.out 1).trans rfl, (blk_cell BK119.out 2).trans rfl⟩ (fun hHeld => ?_)
            clear hK K
            refine norm_ (a' := ?_) ?_ ?_
            rotate_left
            ·show Act.put _ (some 44) _ = _
             simp only [Act.put, List.setIfInBounds_toArray, List.set_cons_zero, List.set_cons_succ, i64_w, i32_w]
             rfl
            refine one_ (i := 4) (N := some 40) #[true, true, true, true, true, true, true, true, true, false, false, false, false, false] rfl rfl (one_of HT_.out (by kernel_rfl)) (by decide) (fun K hK => ?_)
            refine Kd.R_append_rows_step k87 (w0 := w) w.heap.size (by rfl) (.tmp 37) (.tmp 39) 80 87 (.agg #[(.int .i64 0), (.int .i64 0), (.int .i64 0)]) 24 rfl Try.underlying80 info87 rfl (by decide) (by omega) (.slice (some ad113) x113000_1.length co27) x113000_1 y120 _ _ _ (fun k_ => some k_ ≠ (.slice Ao41 y120.length co41 : Value).ownBlock ∧ k_ ≠ gb119) (fun _ => False) rfl rfl ?aO ?aR (fun _ _ h => h) (fun _ h => h.elim) ?aF ?aB ?aS ?aL ?_
            (case aR => exact kc_ (Kd.R_reads' HO122.out).2.2)
            (case aB => exact (hb_ HB.out))
            (case aF => exact (fun k_ hk => ⟨Kd.fresh' (Kd.R_lt (kr_ (HO122.out))) k_ hk, Kd.freshB (g := gb119) (o := .cells #[.int .i64 t114, .int .i64 t115, .int .i64 t116] 87 (0, 0)) (bk_ BK119.out) k_ hk⟩))
            (case aO => exact (by (with_reducible repeat (first | apply Kd.R_alloc | apply Kd.R_drewN | apply Kd.R_drew)); exact Kd.R_mono HO_113000.out (fun _ hk => ⟨hk.2, hk.1⟩)))
            (case aS => exact (below_size (hb_ HB.out)))
            (case aL => have := LMc21.out; omega)
            intro v124 w40 ho hb hg hat
            rw [← Ny123.out] at ho
            have n0_ := Aside0.mk (Kd.R_over' (kr_ (HO_113001.out)) (Kd.R_typed (kr_ (HO_113000.out))) (by decide) hg)
            have n1_ := Aside0.mk (blk_grown (g := gb107) (o := .cells #[.int .i64 a1_0, .int .i64 a1_1] 40 (0, 0)) (bk_ BK107.out) hg (Kd.R_ne HO_113000.out BK107.out (by decide)))
            have n2_ := Aside0.mk (blk_grown (g := gb108) (o := .cells #[.slice none 0 0, .slice none 0 0] 82 (0, 0)) (bk_ BK108.out) hg (Kd.R_ne HO_113000.out BK108.out (by decide)))
            have n3_ := Aside0.mk (blk_grown (g := gb112) (o := .cells #[.slice (some ad113) x113000_1.length co27, .slice Ao26 x113001_1.length co26] 82 (0, 0)) (bk_ BK112.out) hg (Kd.R_ne HO_113000.out BK112.out (by decide)))
            have n4_ := Aside0.mk (blk_grown (g := gb119) (o := .cells #[.int .i64 t114, .int .i64 t115, .int .i64 t116] 87 (0, 0)) (bk_ BK119.out) hg (Kd.R_away HO_113000.out (fun _ hk => hk.1)))
            have n5_ := Aside0.mk (Kd.R_after (ok := (fun k_ => k_ ≠ gb119)) (by (with_reducible repeat (first | apply Kd.R_alloc | apply Kd.R_drewN | apply Kd.R_drew)); exact Kd.R_mono HO122.out (fun _ hk => ⟨hk.2, hk.1.2⟩)) hg hat)
            have n6_ := Aside0.mk (Kd.R_over' (kr_ (HO128.out)) (Kd.R_typed (kr_ (HO_113000.out))) (by decide) hg)
            have n7_ := Aside0.mk (hb)
            have n8_ := Aside0.mk (ho)
            clear HO_113001
            clear BK107
            clear BK108
            clear BK112
            clear BK119
            clear HO122
            clear HO128
            clear HB
            clear HO_113000
            have HO_113001 := n0_
            have BK107 := n1_
            have BK108 := n2_
            have BK112 := n3_
            have BK119 := n4_
            have HO122 := n5_
            have HO128 := n6_
            have HB := n7_
            have HO125 := n8_
            clear n0_ n1_ n2_ n3_ n4_ n5_ n6_ n7_ n8_
            clear ho hb hg hat
            refine hK.out _ _ ⟨(blk_cell BK112.out 0).trans rfl, (blk_cell BK112.out 1).trans rfl, (blk_cell BK119.out 0).trans rfl, (blk_cell BK119.out 1).trans rfl, (blk_cell BK119.out 2).trans rfl⟩ (fun hHeld => ?_)
            clear hK K
            refine norm_ (a' := ?_) ?_ ?_
            rotate_left
            ·show Act.put _ (some 40) _ = _
             simp only [Act.put, List.setIfInBounds_toArray, List.set_cons_zero, List.set_cons_succ, i64_w, i32_w]
             rfl
            refine pure_ (i := 10) (N := some 46) (v := ?_) (a' := ?_) #[true, true, true, true, true, true, true, true, true, false, true, false, false, false] rfl rfl (any_of HT_.out (by kernel_rfl)) (fun _ _ _ h => h) (Or.inl ⟨by rfl, ?_⟩) ?_ ?_
            rotate_left
            ·intro w'
             go_simp
             with_reducible rfl
            rotate_left
            ·simp only [Act.put, List.setIfInBounds_toArray, List.set_cons_zero, List.set_cons_succ, i64_w, i32_w]
             rfl
            exact norm_ (by simp only [putAll, Act.put, List.setIfInBounds_toArray, List.set_cons_zero, List.set_cons_succ]) (hCont (.slice Ao41 y120.length co41, v124, v127) _ ⟨hHeld, (by (with_reducible repeat (first | apply Kd.R_alloc | apply Kd.R_drewN | apply Kd.R_drew)); exact Kd.R_mono HO122.out (fun _ hk => ⟨hk.2, hk.1⟩)), (kr_ (HO125.out)), (by (with_reducible repeat (first | apply Kd.R_alloc | apply Kd.R_drewN | apply Kd.R_drew)); exact Kd.R_mono HO128.out (fun _ hk => hk.2)), (by (with_reducible repeat (first | apply Kd.R_alloc | apply Kd.R_drewN | apply Kd.R_drew)); exact Kd.R_mono HO_113001.out (fun _ hk => hk.2)), (bk_ BK107.out), (bk_ BK108.out), (bk_ BK112.out), (bk_ BK119.out), (hb_ HB.out)⟩)
          ·skip
           refine Kd.R_lit_step (Kd.int .i64) _ 3 ?hg (N := 44) ?hd (xs := ([t117] : List Int)) (inner := [.int .i64 t117]) (ok := fun _ => True) (okp := fun _ => True) ?hr ?hp (fun _ hk => hk) trivial (Below.refl _ _) (Nat.le_refl _) (by simp) ?_; (case hd => rfl); (case hg => rfl); (case hr => first | (go_simp; done) | (go_simp; rfl)); (case hp => exact (Reps.one (show Kd.M (Kd.int .i64) _ _ _ t117 [.int .i64 t117] from rfl) (Reps.none _ _)))
           intro v127 w36 ho37 hb hg_ hnew_
           clear hg_ hnew_
           (first | rw [← Ny126.out] at ho37 | (simp only [Int.reduceToNat] at ho37; rw [← Ny126.out] at ho37))
           have n0_ := Aside0.mk (Kd.R_below (kr_ (HO_113000.out)) hb)
           have n1_ := Aside0.mk (Kd.R_elder' (kr_ (HO_113001.out)) (Kd.R_base ho37) hb)
           have n2_ := Aside0.mk (Kd.R_lower (Kd.R_new' ho37 (Kd.R_lt (kr_ (HO_113001.out)))) (below_size (hb_ HB.out)))
           have n3_ := Aside0.mk (bkb_ BK107.out hb)
           have n4_ := Aside0.mk (bkb_ BK108.out hb)
           have n5_ := Aside0.mk (bkb_ BK112.out hb)
           have n6_ := Aside0.mk (bkb_ BK119.out hb)
           have n7_ := Aside0.mk (below_step (hb_ HB.out) hb)
           clear HO_113000
           clear HO_113001
           clear BK107
           clear BK108
           clear BK112
           clear BK119
           clear HB
           have HO_113000 := n0_
           have HO_113001 := n1_
           have HO128 := n2_
           have BK107 := n3_
           have BK108 := n4_
           have BK112 := n5_
           have BK119 := n6_
           have HB := n7_
           clear n0_ n1_ n2_ n3_ n4_ n5_ n6_ n7_
           clear hb ho37
           refine hK.out _ _ ⟨(blk_cell BK112.out 0).trans rfl, (blk_cell BK112.out 1).trans rfl, (blk_cell BK119.out 0).trans rfl, (blk_cell BK119.out 1).trans rfl, (blk_cell BK119.out 2).trans rfl⟩ (fun hHeld => ?_)
           clear hK K
           refine norm_ (a' := ?_) ?_ ?_
           rotate_left
           ·show Act.put _ (some 44) _ = _
            simp only [Act.put, List.setIfInBounds_toArray, List.set_cons_zero, List.set_cons_succ, i64_w, i32_w]
            rfl
           refine one_ (i := 3) (N := some 39) #[true, true, true, true, false, true, true, true, true, false, false, false, false, false] rfl rfl (one_of HT_.out (by kernel_rfl)) (by decide) (fun K hK => ?_)
           refine Kd.R_lit_step k87 _ 87 ?hg (N := 39) ?hd (xs := ([(⟨t114, (⟨t115, t116⟩ : S40)⟩ : S87)] : List (S87))) (inner := [.int .i64 t114, .int .i64 t115, .int .i64 t116]) (ok := fun _ => True) (okp := fun _ => True) ?hr ?hp (fun _ hk => hk) trivial (Below.refl _ _) (Nat.le_refl _) (by simp) ?_; (case hd => rfl); (case hg => rfl); (case hr => first | (go_simp; done) | (go_simp; rfl)); (case hp => exact (Reps.c3 (show Kd.M k87 _ _ _ (⟨t114, (⟨t115, t116⟩ : S40)⟩ : S87) [.int .i64 t114, .int .i64 t115, .int .i64 t116] from (k87_mkM _ _ _ (⟨t114, (⟨t115, t116⟩ : S40)⟩ : S87) )) (Reps.none _ _)))
           intro v121 w38 ho39 hb hg_ hnew_
           clear hg_ hnew_
           (first | rw [← Ny120.out] at ho39 | (simp only [Int.reduceToNat] at ho39; rw [← Ny120.out] at ho39))
           have n0_ := Aside0.mk (Kd.R_elder' (kr_ (HO_113000.out)) (Kd.R_base ho39) hb)
           have n1_ := Aside0.mk (Kd.R_below (kr_ (HO_113001.out)) hb)
           have n2_ := Aside0.mk (Kd.R_below (kr_ (HO128.out)) hb)
           have n3_ := Aside0.mk (Kd.R_lower (Kd.R_newB (Kd.R_new' ho39 (Kd.R_lt (kr_ (HO_113000.out)))) (g := gb119) (o := .cells #[.int .i64 t114, .int .i64 t115, .int .i64 t116] 87 (0, 0)) (bk_ BK119.out)) (below_size (hb_ HB.out)))
           have n4_ := Aside0.mk (bkb_ BK107.out hb)
           have n5_ := Aside0.mk (bkb_ BK108.out hb)
           have n6_ := Aside0.mk (bkb_ BK112.out hb)
           have n7_ := Aside0.mk (bkb_ BK119.out hb)
           have n8_ := Aside0.mk (below_step (hb_ HB.out) hb)
           clear HO_113000
           clear HO_113001
           clear HO128
           clear BK107
           clear BK108
           clear BK112
           clear BK119
           clear HB
           have HO_113000 := n0_
           have HO_113001 := n1_
           have HO128 := n2_
           have HO122 := n3_
           have BK107 := n4_
           have BK108 := n5_
           have BK112 := n6_
           have BK119 := n7_
           have HB := n8_
           clear n0_ n1_ n2_ n3_ n4_ n5_ n6_ n7_ n8_
           clear hb ho39
           obtain ⟨Ao41, co41, eo41⟩ := Kd.R_slice HO122.out
           (first | subst eo41 | (injection eo41 with f1_ f2_ f3_; have f4_ := f1_.symm; have f5_ := f3_.symm; clear f1_ f2_ f3_; subst f4_; subst f5_))
           refine hK.out _ _ ⟨(blk_cell BK112.out 0).trans rfl, (blk_cell BK112.out 1).trans rfl, (blk_cell BK119.out 0).trans rfl, (blk_cell BK119.out 1).trans rfl, (blk_cell BK119.out 2).trans rfl⟩ (fun hHeld => ?_)
           clear hK K
           refine norm_ (a' := ?_) ?_ ?_
           rotate_left
           ·show Act.put _ (some 39) _ = _
            simp only [Act.put, List.setIfInBounds_toArray, List.set_cons_zero, List.set_cons_succ, i64_w, i32_w]
            rfl
           refine one_ (i := 4) (N := some 40) #[true, true, true, true, true, true, true, true, true, false, false, false, false, false] rfl rfl (one_of HT_.out (by kernel_rfl)) (by decide) (fun K hK => ?_)
           refine Kd.R_append_rows_step k87 (w0 := w) w.heap.size (by rfl) (.tmp 37) (.tmp 39) 80 87 (.agg #[(.int .i64 0), (.int .i64 0), (.int .i64 0)]) 24 rfl Try.underlying80 info87 rfl (by decide) (by omega) (.slice (some ad113) x113000_1.length co27) x113000_1 y120 _ _ _ (fun k_ => some k_ ≠ (.slice Ao41 y120.length co41 : Value).ownBlock ∧ k_ ≠ gb119) (fun _ => False) rfl rfl ?aO ?aR (fun _ _ h => h) (fun _ h => h.elim) ?aF ?aB ?aS ?aL ?_
           (case aR => exact kc_ (Kd.R_reads' HO122.out).2.2)
           (case aB => exact (hb_ HB.out))
           (case aF => exact (fun k_ hk => ⟨Kd.fresh' (Kd.R_lt (kr_ (HO122.out))) k_ hk, Kd.freshB (g := gb119) (o := .cells #[.int .i64 t114, .int .i64 t115, .int .i64 t116] 87 (0, 0)) (bk_ BK119.out) k_ hk⟩))
           (case aO => exact (by (with_reducible repeat (first | apply Kd.R_alloc | apply Kd.R_drewN | apply Kd.R_drew)); exact Kd.R_mono HO_113000.out (fun _ hk => ⟨hk.2, hk.1⟩)))
           (case aS => exact (below_size (hb_ HB.out)))
           (case aL => have := LMc21.out; omega)
           intro v124 w40 ho hb hg hat
           rw [← Ny123.out] at ho
           have n0_ := Aside0.mk (Kd.R_over' (kr_ (HO_113001.out)) (Kd.R_typed (kr_ (HO_113000.out))) (by decide) hg)
           have n1_ := Aside0.mk (blk_grown (g := gb107) (o := .cells #[.int .i64 a1_0, .int .i64 a1_1] 40 (0, 0)) (bk_ BK107.out) hg (Kd.R_ne HO_113000.out BK107.out (by decide)))
           have n2_ := Aside0.mk (blk_grown (g := gb108) (o := .cells #[.slice none 0 0, .slice none 0 0] 82 (0, 0)) (bk_ BK108.out) hg (Kd.R_ne HO_113000.out BK108.out (by decide)))
           have n3_ := Aside0.mk (blk_grown (g := gb112) (o := .cells #[.slice (some ad113) x113000_1.length co27, .slice Ao26 x113001_1.length co26] 82 (0, 0)) (bk_ BK112.out) hg (Kd.R_ne HO_113000.out BK112.out (by decide)))
           have n4_ := Aside0.mk (blk_grown (g := gb119) (o := .cells #[.int .i64 t114, .int .i64 t115, .int .i64 t116] 87 (0, 0)) (bk_ BK119.out) hg (Kd.R_away HO_113000.out (fun _ hk => hk.1)))
           have n5_ := Aside0.mk (Kd.R_over' (kr_ (HO128.out)) (Kd.R_typed (kr_ (HO_113000.out))) (by decide) hg)
           have n6_ := Aside0.mk (Kd.R_after (ok := (fun k_ => k_ ≠ gb119)) (by (with_reducible repeat (first | apply Kd.R_alloc | apply Kd.R_drewN | apply Kd.R_drew)); exact Kd.R_mono HO122.out (fun _ hk => ⟨hk.2, hk.1.2⟩)) hg hat)
           have n7_ := Aside0.mk (hb)
           have n8_ := Aside0.mk (ho)
           clear HO_113001
           clear BK107
           clear BK108
           clear BK112
           clear BK119
           clear HO128
           clear HO122
           clear HB
           clear HO_113000
           have HO_113001 := n0_
           have BK107 := n1_
           have BK108 := n2_
           have BK112 := n3_
           have BK119 := n4_
           have HO128 := n5_
           have HO122 := n6_
           have HB := n7_
           have HO125 := n8_
           clear n0_ n1_ n2_ n3_ n4_ n5_ n6_ n7_ n8_
           clear ho hb hg hat
           refine hK.out _ _ ⟨(blk_cell BK112.out 0).trans rfl, (blk_cell BK112.out 1).trans rfl, (blk_cell BK119.out 0).trans rfl, (blk_cell BK119.out 1).trans rfl, (blk_cell BK119.out 2).trans rfl⟩ (fun hHeld => ?_)
           clear hK K
           refine norm_ (a' := ?_) ?_ ?_
           rotate_left
           ·show Act.put _ (some 40) _ = _
            simp only [Act.put, List.setIfInBounds_toArray, List.set_cons_zero, List.set_cons_succ, i64_w, i32_w]
            rfl
           refine pure_ (i := 10) (N := some 46) (v := ?_) (a' := ?_) #[true, true, true, true, true, true, true, true, true, false, true, false, false, false] rfl rfl (any_of HT_.out (by kernel_rfl)) (fun _ _ _ h => h) (Or.inl ⟨by rfl, ?_⟩) ?_ ?_
           rotate_left
           ·intro w'
            go_simp
            with_reducible rfl
           rotate_left
           ·simp only [Act.put, List.setIfInBounds_toArray, List.set_cons_zero, List.set_cons_succ, i64_w, i32_w]
            rfl
           exact norm_ (by simp only [putAll, Act.put, List.setIfInBounds_toArray, List.set_cons_zero, List.set_cons_succ]) (hCont (.slice Ao41 y120.length co41, v124, v127) _ ⟨hHeld, (by (with_reducible repeat (first | apply Kd.R_alloc | apply Kd.R_drewN | apply Kd.R_drew)); exact Kd.R_mono HO122.out (fun _ hk => ⟨hk.2, hk.1⟩)), (kr_ (HO125.out)), (by (with_reducible repeat (first | apply Kd.R_alloc | apply Kd.R_drewN | apply Kd.R_drew)); exact Kd.R_mono HO128.out (fun _ hk => hk.2)), (by (with_reducible repeat (first | apply Kd.R_alloc | apply Kd.R_drewN | apply Kd.R_drew)); exact Kd.R_mono HO_113001.out (fun _ hk => hk.2)), (bk_ BK107.out), (bk_ BK108.out), (bk_ BK112.out), (bk_ BK119.out), (hb_ HB.out)⟩)
         rintro ⟨v121, v124, v127⟩ w42 ⟨hS_, h0_, h1_, h2_, h3_, h4_, h5_, h6_, h7_, h8_⟩
         have n0_ : Aside0 (Kd.R k87 87 w42 w.heap.size (fun k_ => some k_ ≠ (v124 : Value).ownBlock ∧ k_ ≠ gb119) v121 y120) := ⟨h0_⟩
         have n1_ : Aside0 (Kd.R k87 87 w42 w.heap.size (fun k_ => some k_ ≠ (v121 : Value).ownBlock ∧ k_ ≠ gb119) v124 y123) := ⟨h1_⟩
         have n2_ : Aside0 (Kd.R (Kd.int .i64) 3 w42 w.heap.size (fun k_ => some k_ ≠ (.slice Ao26 x113001_1.length co26 : Value).ownBlock) v127 y126) := ⟨h2_⟩
         have n3_ : Aside0 (Kd.R (Kd.int .i64) 3 w42 w.heap.size (fun k_ => some k_ ≠ (v127 : Value).ownBlock) (.slice Ao26 x113001_1.length co26) x113001_1) := ⟨h3_⟩
         have n4_ : Aside0 (w42.heap[gb107]? = some (.cells #[.int .i64 a1_0, .int .i64 a1_1] 40 (0, 0))) := ⟨h4_⟩
         have n5_ : Aside0 (w42.heap[gb108]? = some (.cells #[.slice none 0 0, .slice none 0 0] 82 (0, 0))) := ⟨h5_⟩
         have n6_ : Aside0 (w42.heap[gb112]? = some (.cells #[.slice (some ad113) x113000_1.length co27, .slice Ao26 x113001_1.length co26] 82 (0, 0))) := ⟨h6_⟩
         have n7_ : Aside0 (w42.heap[gb119]? = some (.cells #[.int .i64 t114, .int .i64 t115, .int .i64 t116] 87 (0, 0))) := ⟨h7_⟩
         have n8_ : Aside0 (Below w.heap.size w w42) := ⟨h8_⟩
         clear HO_113000
         clear HO_113001
         clear BK107
         clear BK108
         clear BK112
         clear BK119
         clear HB
         clear h0_ h1_ h2_ h3_ h4_ h5_ h6_ h7_ h8_
         have HO122 := n0_
         have HO125 := n1_
         have HO128 := n2_
         have HO_113001 := n3_
         have BK107 := n4_
         have BK108 := n5_
         have BK112 := n6_
         have BK119 := n7_
         have HB := n8_
         clear n0_ n1_ n2_ n3_ n4_ n5_ n6_ n7_ n8_
         have hHeld : w42.cell? ⟨gb112, 0, none⟩ = some (.slice (some ad113) x113000_1.length co27) ∧ w42.cell? ⟨gb112, 1, none⟩ = some (.slice Ao26 x113001_1.length co26) ∧ w42.cell? ⟨gb119, 0, none⟩ = some (.int .i64 t114) ∧ w42.cell? ⟨gb119, 1, none⟩ = some (.int .i64 t115) ∧ w42.cell? ⟨gb119, 2, none⟩ = some (.int .i64 t116) := hS_
         obtain ⟨Ao44, co44, eo44⟩ := Kd.R_slice HO128.out
         (first | subst eo44 | (injection eo44 with f1_ f2_ f3_; have f4_ := f1_.symm; have f5_ := f3_.symm; clear f1_ f2_ f3_; subst f4_; subst f5_))
         refine norm_ (a' := ?_) ?_ ?_
         rotate_left
         ·simp only [putAll, Act.put, List.setIfInBounds_toArray, List.set_cons_zero, List.set_cons_succ]
          rfl
         refine one_ (i := 9) (N := some 45) #[true, true, true, true, true, true, true, true, true, true, true, false, false, false] rfl rfl (one_of HT_.out (by kernel_rfl)) (by decide) (fun K hK => ?_)
         refine Kd.R_append_rows_step (Kd.int .i64) (w0 := w) w.heap.size (by rfl) (.tmp 42) (.tmp 44) 23 3 (.int .i64 0) 8 rfl Try.underlying23 info3 rfl (by decide) (by omega) (.slice Ao26 x113001_1.length co26) x113001_1 y126 _ _ _ (fun k_ => some k_ ≠ (.slice Ao44 y126.length co44 : Value).ownBlock) (fun _ => False) rfl rfl ?aO ?aR (fun _ _ h => h) (fun _ h => h.elim) ?aF ?aB ?aS ?aL ?_
         (case aR => exact kc_ (Kd.R_reads' HO128.out).2.2)
         (case aB => exact (hb_ HB.out))
         (case aF => exact (fun k_ hk => Kd.fresh' (Kd.R_lt (kr_ (HO128.out))) k_ hk))
         (case aO => exact (kr_ (HO_113001.out)))
         (case aS => exact (below_size (hb_ HB.out)))
         (case aL => have := LMc22.out; omega)
         intro v130 w43 ho hb hg hat
         rw [← Ny129.out] at ho
         have n0_ := Aside0.mk (blk_grown (g := gb107) (o := .cells #[.int .i64 a1_0, .int .i64 a1_1] 40 (0, 0)) (bk_ BK107.out) hg (Kd.R_ne HO_113001.out BK107.out (by decide)))
         have n1_ := Aside0.mk (blk_grown (g := gb108) (o := .cells #[.slice none 0 0, .slice none 0 0] 82 (0, 0)) (bk_ BK108.out) hg (Kd.R_ne HO_113001.out BK108.out (by decide)))
         have n2_ := Aside0.mk (blk_grown (g := gb112) (o := .cells #[.slice (some ad113) x113000_1.length co27, .slice Ao26 x113001_1.length co26] 82 (0, 0)) (bk_ BK112.out) hg (Kd.R_ne HO_113001.out BK112.out (by decide)))
         have n3_ := Aside0.mk (blk_grown (g := gb119) (o := .cells #[.int .i64 t114, .int .i64 t115, .int .i64 t116] 87 (0, 0)) (bk_ BK119.out) hg (Kd.R_ne HO_113001.out BK119.out (by decide)))
         have n4_ := Aside0.mk (Kd.R_over' (kr_ (HO122.out)) (Kd.R_typed (kr_ (HO_113001.out))) (by decide) hg)
         have n5_ := Aside0.mk (Kd.R_over' (kr_ (HO125.out)) (Kd.R_typed (kr_ (HO_113001.out))) (by decide) hg)
         have n6_ := Aside0.mk (Kd.R_after (ok := (fun _ => True)) (by (with_reducible repeat (first | apply Kd.R_alloc | apply Kd.R_drewN | apply Kd.R_drew)); exact Kd.R_mono HO128.out (fun _ hk => ⟨trivial, hk⟩)) hg hat)
         have n7_ := Aside0.mk (hb)
         have n8_ := Aside0.mk (ho)
         clear BK107
         clear BK108
         clear BK112
         clear BK119
         clear HO122
         clear HO125
         clear HO128
         clear HB
         clear HO_113001
         have BK107 := n0_
         have BK108 := n1_
         have BK112 := n2_
         have BK119 := n3_
         have HO122 := n4_
         have HO125 := n5_
         have HO128 := n6_
         have HB := n7_
         have HO131 := n8_
         clear n0_ n1_ n2_ n3_ n4_ n5_ n6_ n7_ n8_
         clear ho hb hg hat
         obtain ⟨Ao45, co45, eo45⟩ := Kd.R_slice HO125.out
         (first | subst eo45 | (injection eo45 with f1_ f2_ f3_; have f4_ := f1_.symm; have f5_ := f3_.symm; clear f1_ f2_ f3_; subst f4_; subst f5_))
         obtain ⟨Ao47, co47, eo47⟩ := Kd.R_slice HO131.out
         (first | subst eo47 | (injection eo47 with f1_ f2_ f3_; have f4_ := f1_.symm; have f5_ := f3_.symm; clear f1_ f2_ f3_; subst f4_; subst f5_))
         refine hK.out _ _ ⟨(blk_cell BK112.out 0).trans rfl, (blk_cell BK112.out 1).trans rfl, (blk_cell BK119.out 0).trans rfl, (blk_cell BK119.out 1).trans rfl, (blk_cell BK119.out 2).trans rfl⟩ (fun hHeld => ?_)
         clear hK K
         refine norm_ (a' := ?_) ?_ ?_
         rotate_left
         ·show Act.put _ (some 45) _ = _
          simp only [Act.put, List.setIfInBounds_toArray, List.set_cons_zero, List.set_cons_succ, i64_w, i32_w]
          rfl
         refine last_ (i := 11) (N := none) #[true, true, true, true, true, true, true, true, true, true, true, true, false, false] rfl rfl (one_of HT_.out (by kernel_rfl)) (by decide) (fun K hK => ?_)
         have hs46 : w43.cell? ⟨gb112, 0, none⟩ = some (.slice (some ad113) x113000_1.length co27) := (blk_cell BK112.out 0).trans rfl
         have hfs46 := blk_frozen BK112.out 0
         have hns46_0 := NB107_112.out
         have hns46_1 := NB108_112.out
         have hns46_3 := NB119_112.out
         have hms46_0 := NB112_107.out
         have hms46_1 := NB112_108.out
         have hms46_3 := NB112_119.out
         refine skip_ (w1 := ?_) (by rfl) rfl ?_ ?_
         rotate_left
         ·go_simp
          rfl
         refine hK.out _ _ ?_
         clear hK K
         refine pure_ (i := 12) (N := some 47) (v := ?_) (a' := ?_) #[true, true, true, true, true, true, true, true, true, true, true, true, true, false] rfl rfl (any_of HT_.out (by kernel_rfl)) (fun _ _ _ h => h) (Or.inl ⟨by rfl, ?_⟩) ?_ ?_
         rotate_left
         ·intro w'
          go_simp
          with_reducible rfl
         rotate_left
         ·simp only [Act.put, List.setIfInBounds_toArray, List.set_cons_zero, List.set_cons_succ, i64_w, i32_w]
          rfl
         refine last_ (i := 13) (N := none) #[true, true, true, true, true, true, true, true, true, true, true, true, true, true] rfl rfl (one_of HT_.out (by kernel_rfl)) (by decide) (fun K hK => ?_)
         have hs48 : w43.cell? ⟨gb112, 1, none⟩ = some (.slice Ao26 x113001_1.length co26) := (blk_cell BK112.out 1).trans rfl
         have hfs48 := blk_frozen BK112.out 1
         have hns48_0 := NB107_112.out
         have hns48_1 := NB108_112.out
         have hns48_3 := NB119_112.out
         have hms48_0 := NB112_107.out
         have hms48_1 := NB112_108.out
         have hms48_3 := NB112_119.out
         refine skip_ (w1 := ?_) (by rfl) rfl ?_ ?_
         rotate_left
         ·go_simp
          rfl
         refine hK.out _ _ ?_
         clear hK K
         refine done_ (done_of HT_.out (by kernel_rfl)) ?_
         try go_wp2
         go_roundg k1
         case measure => have := HK1.out; omega
         case rel => exact ⟨(y123), (y129), (.slice Ao45 y123.length co45), (.slice Ao47 y129.length co47), H', ⟨by have := HK1.out; omega⟩, ⟨by (with_reducible repeat (first | apply Kd.R_alloc | apply Kd.R_drewN | apply Kd.R_drew)); exact Kd.R_mono (Kd.R_far (p := ⟨gb112, 1, none⟩) (Kd.R_far (p := ⟨gb112, 0, none⟩) (Kd.R_types HO125.out BK112.out (by decide)) (fun _ hk => hk.2) (.slice Ao45 y123.length co45)) (fun _ hk => hk.2) (.slice Ao47 y129.length co47)) (fun _ hk => trivial)⟩, ⟨by (with_reducible repeat (first | apply Kd.R_alloc | apply Kd.R_drewN | apply Kd.R_drew)); exact Kd.R_mono (Kd.R_far (p := ⟨gb112, 1, none⟩) (Kd.R_far (p := ⟨gb112, 0, none⟩) (Kd.R_types HO131.out BK112.out (by decide)) (fun _ hk => hk.2) (.slice Ao45 y123.length co45)) (fun _ hk => hk.2) (.slice Ao47 y129.length co47)) (fun _ hk => trivial)⟩, ⟨by (with_reducible repeat (first | refine blk_drewN ?_ _ | refine blk_drew ?_ | refine blk_alloc ?_ _)); refine blk_far ?_ NB107_112.out _; (with_reducible repeat (first | refine blk_drewN ?_ _ | refine blk_drew ?_ | refine blk_alloc ?_ _)); refine blk_far ?_ NB107_112.out _; (with_reducible repeat (first | refine blk_drewN ?_ _ | refine blk_drew ?_ | refine blk_alloc ?_ _)); exact BK107.out⟩, ⟨by (with_reducible repeat (first | refine blk_drewN ?_ _ | refine blk_drew ?_ | refine blk_alloc ?_ _)); refine blk_far ?_ NB108_112.out _; (with_reducible repeat (first | refine blk_drewN ?_ _ | refine blk_drew ?_ | refine blk_alloc ?_ _)); refine blk_far ?_ NB108_112.out _; (with_reducible repeat (first | refine blk_drewN ?_ _ | refine blk_drew ?_ | refine blk_alloc ?_ _)); exact BK108.out⟩, ⟨by (with_reducible repeat (first | refine blk_drewN ?_ _ | refine blk_drew ?_ | refine blk_alloc ?_ _)); refine blk_put (cs := #[.slice Ao45 y123.length co45, .slice Ao26 x113001_1.length co26]) ?_ 1 _ rfl; (with_reducible repeat (first | refine blk_drewN ?_ _ | refine blk_drew ?_ | refine blk_alloc ?_ _)); refine blk_put (cs := #[.slice (some ad113) x113000_1.length co27, .slice Ao26 x113001_1.length co26]) ?_ 0 _ rfl; (with_reducible repeat (first | refine blk_drewN ?_ _ | refine blk_drew ?_ | refine blk_alloc ?_ _)); exact BK112.out⟩, ⟨by repeat (first | (with_reducible first | exact HB.out | apply below_alloc | apply pw_below_drewN | apply below_drew1 | refine below_set ?_ GE107.out | refine below_set ?_ GE108.out | refine below_set ?_ GE112.out | refine below_set ?_ GE119.out) | exact HB.out)⟩⟩
        ·rw [if_neg c22] at H
         exact absurd H (by simp)
       ·rw [if_neg c21] at H
        exact absurd H (by simp)
      ·replace c20 := Bool.eq_false_iff.mpr c20
       subst c20
       have H1 : (some (x113000_1, x113001_1)) = some (r1, r2) := by rw [if_neg (show ¬ (false = true) by decide)] at H; exact H
       clear H
       have H := H1
       clear H1
       simp only [Option.some.injEq, Prod.mk.injEq] at H
       obtain ⟨rfl, rfl⟩ := H
       have hnb49 := NB112_107.out
       have hnc49 := NB107_112.out
       have hnb50 := NB112_108.out
       have hnc50 := NB108_112.out
       have hcz51_0 : wr.cell? ⟨gb112, 0, none⟩ = some (u113000) := (blk_cell BK112.out 0).trans rfl
       have hcz51_1 : wr.cell? ⟨gb112, 1, none⟩ = some (u113001) := (blk_cell BK112.out 1).trans rfl
       have hfz51_0 := blk_frozen BK112.out 0
       have hfz51_1 := blk_frozen BK112.out 1
       obtain ⟨Ao52, co52, eo52⟩ := Kd.R_slice HO_113001.out
       subst eo52
       obtain ⟨Ao53, co53, eo53⟩ := Kd.R_slice HO_113000.out
       subst eo53
       have p113 : 0 ≤ ((ji16) : Int) := of_decide_eq_true (by first | (with_reducible assumption) | assumption)
       have q113 : (ji16) < (x113000_1.length : Int) := of_decide_eq_true (by first | (with_reducible assumption) | assumption)
       obtain ⟨ad113, e113, hx113_0, hx113_1, hx113_2⟩ := at_T87 (Kd.R_reads' HO_113000.out).2.2 (ji16) p113 q113
       cases e113
       replace p113 := eq_true p113
       replace q113 := eq_true q113
       go_wp2_with (first | ((with_reducible refine gate_callee (f := 67) rfl ?_); refine goesL_ (some 30) rfl rfl Try.func67 (by kernel_rfl) rfl #[.slice A0 l0.length c0, .agg #[.int .i64 ((rd_T87 x113000_1 (ji16)).f0), .int .i64 ((rd_T87 x113000_1 (ji16)).f1.f0), .int .i64 ((rd_T87 x113000_1 (ji16)).f1.f1)]] rfl (by (try simp only [List.map_toArray, List.map_cons, List.map_nil]); first | done | (simp only [hji16]; rfl) | rfl | (simp only [List.length_drop, List.length_take]; rfl)) ?_; (with_reducible refine (tags_step.calls _ _ l0 ((rd_T87 x113000_1 (ji16)).f0) ((rd_T87 x113000_1 (ji16)).f1.f0) ((rd_T87 x113000_1 (ji16)).f1.f1) t114 t115 t116 t117 false _ ?side1 ?side2 A19.out).mono ?_); (case side1 => exact kc_ (Kd.C_below HR0.out HB.out)); (case side2 => exact HC0.out); rintro e w54 ⟨rfl, hb⟩; refine ⟨_, rfl, ?_⟩; have n0_ := Aside0.mk (Kd.R_below (kr_ (HO_113000.out)) hb); have n1_ := Aside0.mk (Kd.R_below (kr_ (HO_113001.out)) hb); have n2_ := Aside0.mk (bkb_ BK107.out hb); have n3_ := Aside0.mk (bkb_ BK108.out hb); have n4_ := Aside0.mk (bkb_ BK112.out hb); have n5_ := Aside0.mk (below_step (hb_ HB.out) hb); clear HO_113000; clear HO_113001; clear BK107; clear BK108; clear BK112; clear HB; have HO_113000 := n0_; have HO_113001 := n1_; have BK107 := n2_; have BK108 := n3_; have BK112 := n4_; have HB := n5_; clear n0_ n1_ n2_ n3_ n4_ n5_; (try clear hb); (try clear hb2); (try clear hk); (try clear hi)) | ((with_reducible refine gate_dst (N := 8) rfl ?_); refine box_event ?hg (N := 8) ?hd (cs := #[.int .i64 0, .int .i64 0, .int .i64 0]) (t := 87) ?hr ?_; (case hd => rfl); (case hg => rfl); (case hr => first | (go_simp; done) | (go_simp; rfl)); intro gb119 hg w55 hbox hb; have n0_ := Aside0.mk (Kd.R_below (Kd.R_elderB (kr_ (HO_113000.out)) gb119 (Nat.le_of_eq hg.symm)) hb); have n1_ := Aside0.mk (Kd.R_below (kr_ (HO_113001.out)) hb); have n2_ := Aside0.mk (bkb_ BK107.out hb); have n3_ := Aside0.mk (bkb_ BK108.out hb); have n4_ := Aside0.mk (bkb_ BK112.out hb); have n5_ := Aside0.mk (below_step (hb_ HB.out) hb); have n6_ := Aside0.mk (hbox); have n7_ := Aside0.mk ((by rw [hg]; exact (below_size (hb_ HB.out)) : w.heap.size ≤ gb119)); have n8_ := Aside0.mk ((by rw [hg]; exact (below_size (hb_ HB.out)) : w.heap.size ≤ gb119)); have n9_ := Aside0.mk ((by rw [hg]; exact Nat.ne_of_lt (bkl_ BK107.out) : gb107 ≠ gb119)); have n10_ := Aside0.mk ((by rw [hg]; exact Nat.ne_of_gt (bkl_ BK107.out) : gb119 ≠ gb107)); have n11_ := Aside0.mk ((by rw [hg]; exact Nat.ne_of_lt (bkl_ BK108.out) : gb108 ≠ gb119)); have n12_ := Aside0.mk ((by rw [hg]; exact Nat.ne_of_gt (bkl_ BK108.out) : gb119 ≠ gb108)); have n13_ := Aside0.mk ((by rw [hg]; exact Nat.ne_of_lt (bkl_ BK112.out) : gb112 ≠ gb119)); have n14_ := Aside0.mk ((by rw [hg]; exact Nat.ne_of_gt (bkl_ BK112.out) : gb119 ≠ gb112)); clear HO_113000; clear HO_113001; clear BK107; clear BK108; clear BK112; clear HB; have HO_113000 := n0_; have HO_113001 := n1_; have BK107 := n2_; have BK108 := n3_; have BK112 := n4_; have HB := n5_; have BK119 := n6_; have GW119 := n7_; have GE119 := n8_; have NB107_119 := n9_; have NB119_107 := n10_; have NB108_119 := n11_; have NB119_108 := n12_; have NB112_119 := n13_; have NB119_112 := n14_; clear n0_ n1_ n2_ n3_ n4_ n5_ n6_ n7_ n8_ n9_ n10_ n11_ n12_ n13_ n14_; clear hb hbox hg; have hnb56 := NB119_107.out; have hnc56 := NB107_119.out; have hnb57 := NB119_108.out; have hnc57 := NB108_119.out; have hnb58 := NB119_112.out; have hnc58 := NB112_119.out; have hcz59_0 : w55.cell? ⟨gb119, 0, none⟩ = some (.int .i64 0) := (blk_cell BK119.out 0).trans rfl; have hcz59_1 : w55.cell? ⟨gb119, 1, none⟩ = some (.int .i64 0) := (blk_cell BK119.out 1).trans rfl; have hcz59_2 : w55.cell? ⟨gb119, 2, none⟩ = some (.int .i64 0) := (blk_cell BK119.out 2).trans rfl; have hfz59_0 := blk_frozen BK119.out 0; have hfz59_1 := blk_frozen BK119.out 1; have hfz59_2 := blk_frozen BK119.out 2; have hcz60_0 : w55.cell? ⟨gb112, 0, none⟩ = some (.slice (some ad113) x113000_1.length co53) := (blk_cell BK112.out 0).trans rfl; have hcz60_1 : w55.cell? ⟨gb112, 1, none⟩ = some (.slice Ao52 x113001_1.length co52) := (blk_cell BK112.out 1).trans rfl; have hfz60_0 := blk_frozen BK112.out 0; have hfz60_1 := blk_frozen BK112.out 1; have hnb61 := NB108_107.out; have hnc61 := NB107_108.out; have hcz62_0 : w55.cell? ⟨gb108, 0, none⟩ = some (.slice none 0 0) := (blk_cell BK108.out 0).trans rfl; have hcz62_1 : w55.cell? ⟨gb108, 1, none⟩ = some (.slice none 0 0) := (blk_cell BK108.out 1).trans rfl; have hfz62_0 := blk_frozen BK108.out 0; have hfz62_1 := blk_frozen BK108.out 1))
       refine bodyPost_ret (results_cell_row rfl _ _ gb108 82 #[.slice (some ad113) x113000_1.length co53, .slice Ao52 x113001_1.length co52] (0, 0) _ rfl (by (with_reducible repeat (first | refine blk_drewN ?_ _ | refine blk_drew ?_ | refine blk_alloc ?_ _)); refine blk_put (cs := #[.slice (some ad113) x113000_1.length co53, .slice none 0 0]) ?_ 1 _ rfl; (with_reducible repeat (first | refine blk_drewN ?_ _ | refine blk_drew ?_ | refine blk_alloc ?_ _)); refine blk_put (cs := #[.slice none 0 0, .slice none 0 0]) ?_ 0 _ rfl; (with_reducible repeat (first | refine blk_drewN ?_ _ | refine blk_drew ?_ | refine blk_alloc ?_ _)); refine blk_far ?_ NB108_119.out _; (with_reducible repeat (first | refine blk_drewN ?_ _ | refine blk_drew ?_ | refine blk_alloc ?_ _)); refine blk_far ?_ NB108_119.out _; (with_reducible repeat (first | refine blk_drewN ?_ _ | refine blk_drew ?_ | refine blk_alloc ?_ _)); refine blk_far ?_ NB108_119.out _; (with_reducible repeat (first | refine blk_drewN ?_ _ | refine blk_drew ?_ | refine blk_alloc ?_ _)); exact BK108.out) Try.underlying82 rfl (by kernel_rfl)) rfl ?_
       exact ⟨_, _, by first | rfl | (simp [errW_none, errW_some] <;> rfl) | (simp only [← hji16]; first | rfl | (simp [errW_none, errW_some] <;> rfl)) | (simp [*, errW_none, errW_some] <;> rfl), by (with_reducible repeat (first | apply Kd.R_alloc | apply Kd.R_drewN | apply Kd.R_drew)); exact Kd.R_mono (Kd.R_far (p := ⟨gb108, 1, none⟩) (Kd.R_far (p := ⟨gb108, 0, none⟩) (Kd.R_far (p := ⟨gb119, 2, none⟩) (Kd.R_far (p := ⟨gb119, 1, none⟩) (Kd.R_far (p := ⟨gb119, 0, none⟩) (Kd.R_types (Kd.R_mono HO_113000.out (fun k_ hk => (⟨hk, hk.2⟩ : _ ∧ k_ ≠ gb119))) BK108.out (by decide)) (fun _ hk => hk.1.2) (.int .i64 t114)) (fun _ hk => hk.1.2) (.int .i64 t115)) (fun _ hk => hk.1.2) (.int .i64 t116)) (fun _ hk => hk.2) (.slice (some ad113) x113000_1.length co53)) (fun _ hk => hk.2) (.slice Ao52 x113001_1.length co52)) (fun _ hk => trivial), by (with_reducible repeat (first | apply Kd.R_alloc | apply Kd.R_drewN | apply Kd.R_drew)); exact Kd.R_mono (Kd.R_far (p := ⟨gb108, 1, none⟩) (Kd.R_far (p := ⟨gb108, 0, none⟩) (Kd.R_far (p := ⟨gb119, 2, none⟩) (Kd.R_far (p := ⟨gb119, 1, none⟩) (Kd.R_far (p := ⟨gb119, 0, none⟩) (Kd.R_types (Kd.R_types HO_113001.out BK119.out (by decide)) BK108.out (by decide)) (fun _ hk => hk.1.2) (.int .i64 t114)) (fun _ hk => hk.1.2) (.int .i64 t115)) (fun _ hk => hk.1.2) (.int .i64 t116)) (fun _ hk => hk.2) (.slice (some ad113) x113000_1.length co53)) (fun _ hk => hk.2) (.slice Ao52 x113001_1.length co52)) (fun _ hk => trivial), by repeat (first | (with_reducible first | exact HB.out | apply below_alloc | apply pw_below_drewN | apply below_drew1 | refine below_set ?_ GE107.out | refine below_set ?_ GE108.out | refine below_set ?_ GE112.out | refine below_set ?_ GE119.out) | exact HB.out)⟩
     ·rw [if_neg c18] at H
      exact absurd H (by simp)
    ·rw [if_neg c17] at H
     exact absurd H (by simp)
   ·rw [if_neg c15] at H
    have c15b0 : decide ((x113001_1.length : Int) < a2) = false := decide_eq_false c15
    clear c15
    simp only [Option.some.injEq, Prod.mk.injEq] at H
    obtain ⟨rfl, rfl⟩ := H
    have hnb63 := NB112_107.out
    have hnc63 := NB107_112.out
    have hnb64 := NB112_108.out
    have hnc64 := NB108_112.out
    have hcz65_0 : wr.cell? ⟨gb112, 0, none⟩ = some (u113000) := (blk_cell BK112.out 0).trans rfl
    have hcz65_1 : wr.cell? ⟨gb112, 1, none⟩ = some (u113001) := (blk_cell BK112.out 1).trans rfl
    have hfz65_0 := blk_frozen BK112.out 0
    have hfz65_1 := blk_frozen BK112.out 1
    obtain ⟨Ao66, co66, eo66⟩ := Kd.R_slice HO_113001.out
    subst eo66
    obtain ⟨Ao67, co67, eo67⟩ := Kd.R_slice HO_113000.out
    subst eo67
    have hnb68 := NB108_107.out
    have hnc68 := NB107_108.out
    have hcz69_0 : wr.cell? ⟨gb108, 0, none⟩ = some (.slice none 0 0) := (blk_cell BK108.out 0).trans rfl
    have hcz69_1 : wr.cell? ⟨gb108, 1, none⟩ = some (.slice none 0 0) := (blk_cell BK108.out 1).trans rfl
    have hfz69_0 := blk_frozen BK108.out 0
    have hfz69_1 := blk_frozen BK108.out 1
    go_wp2
    refine bodyPost_ret (results_cell_row rfl _ _ gb108 82 #[.slice Ao67 x113000_1.length co67, .slice Ao66 x113001_1.length co66] (0, 0) _ rfl (by (with_reducible repeat (first | refine blk_drewN ?_ _ | refine blk_drew ?_ | refine blk_alloc ?_ _)); refine blk_put (cs := #[.slice Ao67 x113000_1.length co67, .slice none 0 0]) ?_ 1 _ rfl; (with_reducible repeat (first | refine blk_drewN ?_ _ | refine blk_drew ?_ | refine blk_alloc ?_ _)); refine blk_put (cs := #[.slice none 0 0, .slice none 0 0]) ?_ 0 _ rfl; (with_reducible repeat (first | refine blk_drewN ?_ _ | refine blk_drew ?_ | refine blk_alloc ?_ _)); exact BK108.out) Try.underlying82 rfl (by kernel_rfl)) rfl ?_
    exact ⟨_, _, by first | rfl | (simp [errW_none, errW_some] <;> rfl) | (simp [*, errW_none, errW_some] <;> rfl), by (with_reducible repeat (first | apply Kd.R_alloc | apply Kd.R_drewN | apply Kd.R_drew)); exact Kd.R_mono (Kd.R_far (p := ⟨gb108, 1, none⟩) (Kd.R_far (p := ⟨gb108, 0, none⟩) (Kd.R_types HO_113000.out BK108.out (by decide)) (fun _ hk => hk.2) (.slice Ao67 x113000_1.length co67)) (fun _ hk => hk.2) (.slice Ao66 x113001_1.length co66)) (fun _ hk => trivial), by (with_reducible repeat (first | apply Kd.R_alloc | apply Kd.R_drewN | apply Kd.R_drew)); exact Kd.R_mono (Kd.R_far (p := ⟨gb108, 1, none⟩) (Kd.R_far (p := ⟨gb108, 0, none⟩) (Kd.R_types HO_113001.out BK108.out (by decide)) (fun _ hk => hk.2) (.slice Ao67 x113000_1.length co67)) (fun _ hk => hk.2) (.slice Ao66 x113001_1.length co66)) (fun _ hk => trivial), by repeat (first | (with_reducible first | exact HB.out | apply below_alloc | apply pw_below_drewN | apply below_drew1 | refine below_set ?_ GE107.out | refine below_set ?_ GE108.out | refine below_set ?_ GE112.out) | exact HB.out)⟩

end Go.Proofs.Ytmlbdkkdejecmaa.X
