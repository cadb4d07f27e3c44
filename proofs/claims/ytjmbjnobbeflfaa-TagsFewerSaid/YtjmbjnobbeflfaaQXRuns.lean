/- Written by a program of this session (wip/tools/xprint.py, which calls the kit's print): Go functions as Lean functions, and for each the proof that the machine's call does what it says; no conditions but those that each theorem names. -/
import Derived.Test.YtjmbjnobbeflfaaQX0
import Derived.Test.YtjmbjnobbeflfaaQXStep
namespace Go.Proofs.Ytjmbjnobbeflfaa.X
open Go.RowKit Go.Proofs.YtjmbjnobbeflfaaW.PrintWords Go.Proofs.YtjmbjnobbeflfaaW.PrintLast Go.Proofs.YtjmbjnobbeflfaaW.PrintMore
attribute [local go_sem] max2_int min2_int max_two min_two max_three min_three max_four min_four   -- for this text's walks alone
set_option linter.unusedVariables false
set_option linter.unusedSimpArgs false

/-! ### tags_runs: function 32 -/
def tags_runs.l0 : Nat → List (S57) → Int → List (S66) → List Int → Option ((List (S66)) × List Int)
 | 0, _, _, _, _ => none
 | k + 1, x0, x2, x149000, x149001 => if (x149001.length : Int) < x2 then (if 0 ≤ (wrap64 ((x149000.length : Int) - 1)) then (if (wrap64 ((x149000.length : Int) - 1)) < (x149000.length : Int) then ((tags_step.f x0 ((rd_T66 x149000 (wrap64 ((x149000.length : Int) - 1))).f0) ((rd_T66 x149000 (wrap64 ((x149000.length : Int) - 1))).f1.f0) ((rd_T66 x149000 (wrap64 ((x149000.length : Int) - 1))).f1.f1)).bind fun bt150 => (if bt150.2.2.2.2 = true then ((some (([(⟨bt150.1, (⟨bt150.2.1, bt150.2.2.1⟩ : S23)⟩ : S66)] : List (S66)) : List (S66))).bind fun y156 => (if x149000.length + y156.length < 5864062014805 then ((some (([bt150.2.2.2.1] : List Int) : List Int)).bind fun y162 => (if x149001.length + y162.length < 17592186044416 then (tags_runs.l0 k x0 x2 (x149000 ++ y156) (x149001 ++ y162)) else (none))) else (none))) else (some (x149000, x149001)))) else (none)) else (none)) else (some (x149000, x149001))
def tags_runs.f (k : Nat) (l0 : List (S57)) (a1_0 : Int) (a1_1 : Int) (a2 : Int) : Option ((List (S66)) × List Int) := tags_runs.l0 k l0 a2 (([(⟨0, (⟨a1_0, a1_1⟩ : S23)⟩ : S66)] : List (S66))) ([] : List Int)
theorem tags_runs.mono_l : ∀ k, (∀ y0 y1 y2 y3, LeO (tags_runs.l0 k y0 y1 y2 y3) (tags_runs.l0 (k + 1) y0 y1 y2 y3))
 | 0 => fun _ _ _ _ r h => by simp [tags_runs.l0] at h
 | k + 1 => by
  have ih0 := tags_runs.mono_l k
  ·intro y0 y1 y2 y3
   unfold tags_runs.l0
   repeat' first
   | (with_reducible exact ih0 _ _ _ _)
   | (with_reducible exact LeO.refl _)
   | (with_reducible exact LeO.none _)
   | (with_reducible refine LeO.ite ?_ ?_)
   | (with_reducible refine LeO.bind ?_ (fun _ => ?_))
   | exact ih0 _ _ _ _
   | exact LeO.none _
   | refine LeO.ite ?_ ?_
   | refine LeO.bind ?_ (fun _ => ?_)
theorem tags_runs.mono : ∀ a0 a1 a2 a3 k, LeO (tags_runs.f k a0 a1 a2 a3) (tags_runs.f (k + 1) a0 a1 a2 a3) := by
 intro a0 a1 a2 a3 k
 have ih0 := tags_runs.mono_l k
 unfold tags_runs.f
 repeat' first
   | (with_reducible exact ih0 _ _ _ _)
   | (with_reducible exact LeO.refl _)
   | (with_reducible exact LeO.none _)
   | (with_reducible refine LeO.ite ?_ ?_)
   | (with_reducible refine LeO.bind ?_ (fun _ => ?_))
   | exact ih0 _ _ _ _
   | exact LeO.none _
   | refine LeO.ite ?_ ?_
   | refine LeO.bind ?_ (fun _ => ?_)
def tags_runs.T5 : Bool × List (List Nat × List Nat) := (true, [([], []), ([0], [0]), ([], []), ([2], [2]), ([1, 3], [1, 3]), ([], []), ([5], [5]), ([], []), ([7], [7]), ([6, 8, 4], [6, 8]), ([0, 1, 2, 3, 4, 5, 6], []), ([10, 4, 9, 0, 1, 2, 3, 4, 5, 6], [4, 10]), ([0, 1, 2, 3, 4, 5, 6, 7, 8, 9, 10, 11], []), ([12, 9, 11, 0, 1, 2, 3, 4, 5, 6, 7, 8, 9, 10, 11], [9, 12])])
def tags_runs.B5 : List Nat := [0, 1, 0, 4, 15, 0, 32, 0, 128, 511, 127, 2047, 4095, 8191]
theorem tags_runs.tab5 : rtab .any (opsOf Try.f32 5) = tags_runs.T5 := by kernel_rfl
theorem tags_runs.bits5 : waitsOk tags_runs.T5.2 tags_runs.B5 = true := by kernel_rfl
set_option maxHeartbeats 8000000 in
set_option maxRecDepth 100000 in
theorem tags_runs.calls (k : Nat) (A0 : Option Addr) (c0 : Nat) (l0 : List (S57)) (a1_0 : Int) (a1_1 : Int) (a2 : Int) (r1 : List (S66)) (r2 : List Int) (w : World) (hr0 : Kd.C k57 w A0 l0.length l0) (hc0 : l0.length ≤ c0) (h : tags_runs.f k l0 a1_0 a1_1 a2 = some (r1, r2)) :
  Calls Try.prog 32 #[.slice A0 l0.length c0, .agg #[.int .i64 a1_0, .int .i64 a1_1], .int .i64 a2] w fun e w' => ∃ v0_ v1_ : Value, e = .returned (.agg #[v0_, v1_]) ∧ Kd.R k66 66 w' w.heap.size (fun _ => True) v0_ r1 ∧ Kd.R (Kd.int .i64) 3 w' w.heap.size (fun _ => True) v1_ r2 ∧ Below w.heap.size w w' := by
 have hu23 := Try.underlying23
 have hu63 := Try.underlying63
 have hu66 := Try.underlying66
 have HR0 := Aside0.mk hr0
 have HC0 := Aside0.mk hc0
 clear hr0 hc0
 have HB := Aside0.mk (Below.refl w.heap.size w)
 have H : (tags_runs.l0 k l0 a2 (([(⟨0, (⟨a1_0, a1_1⟩ : S23)⟩ : S66)] : List (S66))) ([] : List Int)) = some (r1, r2) := h
 clear h
 obtain ⟨y145, hy145⟩ : ∃ y_ : List (S66), y_ = (([(⟨0, (⟨a1_0, a1_1⟩ : S23)⟩ : S66)] : List (S66))) := ⟨_, rfl⟩
 replace H : (tags_runs.l0 k l0 a2 y145 ([] : List Int)) = some (r1, r2) := by first | (rw [hy145]; with_reducible exact H) | (have H2_ := (Option.bind_some _ _).symm.trans H; rw [hy145]; with_reducible exact H2_) | (have H2_ := (Option.bind_some _ _).symm.trans H; with_reducible exact H2_) | with_reducible exact H | (rw [hy145]; exact H) | exact H
 have Ny145 := Aside0.mk hy145
 clear hy145
 have H' := Aside0.mk H
 clear H
 go_enter Try.func32, Try.ntmps32
 go_wp2_with (first | ((with_reducible refine gate_dst (N := 4) rfl ?_); refine box_event ?hg (N := 4) ?hd (cs := #[.int .i64 a1_0, .int .i64 a1_1]) (t := 23) ?hr ?_; (case hd => rfl); (case hg => rfl); (case hr => first | (go_simp; done) | (go_simp; rfl)); intro gb143 hg w4 hbox hb; have n0_ := Aside0.mk (below_step (hb_ HB.out) hb); have n1_ := Aside0.mk (hbox); have n2_ := Aside0.mk ((by rw [hg]; exact (below_size (hb_ HB.out)) : w.heap.size ≤ gb143)); have n3_ := Aside0.mk ((by rw [hg]; exact (below_size (hb_ HB.out)) : w.heap.size ≤ gb143)); clear HB; have HB := n0_; have BK143 := n1_; have GW143 := n2_; have GE143 := n3_; clear n0_ n1_ n2_ n3_; clear hb hbox hg) | ((with_reducible refine gate_dst (N := 6) rfl ?_); refine box_event ?hg (N := 6) ?hd (cs := #[.slice none 0 0, .slice none 0 0]) (t := 63) ?hr ?_; (case hd => rfl); (case hg => rfl); (case hr => first | (go_simp; done) | (go_simp; rfl)); intro gb144 hg w5 hbox hb; have n0_ := Aside0.mk (bkb_ BK143.out hb); have n1_ := Aside0.mk (below_step (hb_ HB.out) hb); have n2_ := Aside0.mk (hbox); have n3_ := Aside0.mk ((by rw [hg]; exact (below_size (hb_ HB.out)) : w.heap.size ≤ gb144)); have n4_ := Aside0.mk ((by rw [hg]; exact (below_size (hb_ HB.out)) : w.heap.size ≤ gb144)); have n5_ := Aside0.mk ((by rw [hg]; exact Nat.ne_of_lt (bkl_ BK143.out) : gb143 ≠ gb144)); have n6_ := Aside0.mk ((by rw [hg]; exact Nat.ne_of_gt (bkl_ BK143.out) : gb144 ≠ gb143)); clear BK143; clear HB; have BK143 := n0_; have HB := n1_; have BK144 := n2_; have GW144 := n3_; have GE144 := n4_; have NB143_144 := n5_; have NB144_143 := n6_; clear n0_ n1_ n2_ n3_ n4_ n5_ n6_; clear hb hbox hg; have hnb6 := NB143_144.out; have hnc6 := NB144_143.out; have hcz7_0 : w5.cell? ⟨gb143, 0, none⟩ = some (.int .i64 a1_0) := (blk_cell BK143.out 0).trans rfl; have hcz7_1 : w5.cell? ⟨gb143, 1, none⟩ = some (.int .i64 a1_1) := (blk_cell BK143.out 1).trans rfl; have hfz7_0 := blk_frozen BK143.out 0; have hfz7_1 := blk_frozen BK143.out 1) | ((with_reducible refine gate_dst (N := 13) rfl ?_); refine Kd.R_lit k66 _ 66 ?hg (N := 13) ?hd (xs := ([(⟨0, (⟨a1_0, a1_1⟩ : S23)⟩ : S66)] : List (S66))) (inner := [.int .i64 0, .int .i64 a1_0, .int .i64 a1_1]) (ok := fun _ => True) (okp := fun _ => True) ?hr ?hp (fun _ hk => hk) trivial (Below.refl _ _) (Nat.le_refl _) (by simp) ?_; (case hd => rfl); (case hg => rfl); (case hr => first | (go_simp; done) | (go_simp; rfl)); (case hp => exact (Reps.c3 (show Kd.M k66 _ _ _ (⟨0, (⟨a1_0, a1_1⟩ : S23)⟩ : S66) [.int .i64 0, .int .i64 a1_0, .int .i64 a1_1] from (k66_mkM _ _ _ (⟨0, (⟨a1_0, a1_1⟩ : S23)⟩ : S66) )) (Reps.none _ _))); intro v146 w8 ho9 hb hg_ hnew_; clear hg_ hnew_; (first | rw [← Ny145.out] at ho9 | (simp only [Int.reduceToNat] at ho9; rw [← Ny145.out] at ho9)); have n0_ := Aside0.mk (Kd.R_lower ho9 (below_size (hb_ HB.out))); have n1_ := Aside0.mk (bkb_ BK143.out hb); have n2_ := Aside0.mk (bkb_ BK144.out hb); have n3_ := Aside0.mk (below_step (hb_ HB.out) hb); clear BK143; clear BK144; clear HB; have HO147 := n0_; have BK143 := n1_; have BK144 := n2_; have HB := n3_; clear n0_ n1_ n2_ n3_; clear hb ho9; obtain ⟨Ao10, co10, eo10⟩ := Kd.R_slice HO147.out; subst eo10) | ((with_reducible refine gate_dst (N := 7) rfl ?_); refine box_event ?hg (N := 7) ?hd (cs := #[.slice none 0 0, .slice none 0 0]) (t := 63) ?hr ?_; (case hd => rfl); (case hg => rfl); (case hr => first | (go_simp; done) | (go_simp; rfl)); intro gb148 hg w11 hbox hb; have n0_ := Aside0.mk (Kd.R_below (kr_ (HO147.out)) hb); have n1_ := Aside0.mk (bkb_ BK143.out hb); have n2_ := Aside0.mk (bkb_ BK144.out hb); have n3_ := Aside0.mk (below_step (hb_ HB.out) hb); have n4_ := Aside0.mk (hbox); have n5_ := Aside0.mk ((by rw [hg]; exact (below_size (hb_ HB.out)) : w.heap.size ≤ gb148)); have n6_ := Aside0.mk ((by rw [hg]; exact (below_size (hb_ HB.out)) : w.heap.size ≤ gb148)); have n7_ := Aside0.mk ((by rw [hg]; exact Nat.ne_of_lt (bkl_ BK143.out) : gb143 ≠ gb148)); have n8_ := Aside0.mk ((by rw [hg]; exact Nat.ne_of_gt (bkl_ BK143.out) : gb148 ≠ gb143)); have n9_ := Aside0.mk ((by rw [hg]; exact Nat.ne_of_lt (bkl_ BK144.out) : gb144 ≠ gb148)); have n10_ := Aside0.mk ((by rw [hg]; exact Nat.ne_of_gt (bkl_ BK144.out) : gb148 ≠ gb144)); clear HO147; clear BK143; clear BK144; clear HB; have HO147 := n0_; have BK143 := n1_; have BK144 := n2_; have HB := n3_; have BK148 := n4_; have GW148 := n5_; have GE148 := n6_; have NB143_148 := n7_; have NB148_143 := n8_; have NB144_148 := n9_; have NB148_144 := n10_; clear n0_ n1_ n2_ n3_ n4_ n5_ n6_ n7_ n8_ n9_ n10_; clear hb hbox hg; have hnb12 := NB148_143.out; have hnc12 := NB143_148.out; have hnb13 := NB148_144.out; have hnc13 := NB144_148.out; have hcz14_0 : w11.cell? ⟨gb148, 0, none⟩ = some (.slice none 0 0) := (blk_cell BK148.out 0).trans rfl; have hcz14_1 : w11.cell? ⟨gb148, 1, none⟩ = some (.slice none 0 0) := (blk_cell BK148.out 1).trans rfl; have hfz14_0 := blk_frozen BK148.out 0; have hfz14_1 := blk_frozen BK148.out 1))
 go_loopg [] k (fun kq w' => ∃ (x149000_1 : List (S66)) (x149001_1 : List Int) (u149000 : Value) (u149001 : Value), Aside0 (tags_runs.l0 kq l0 a2 x149000_1 x149001_1 = some (r1, r2)) ∧ Aside0 (kq ≤ k) ∧ Aside0 (Kd.R k66 66 w' w.heap.size (fun _ => True) u149000 x149000_1) ∧ Aside0 (Kd.R (Kd.int .i64) 3 w' w.heap.size (fun _ => True) u149001 x149001_1) ∧ Aside0 (w'.heap[gb143]? = some (.cells #[.int .i64 a1_0, .int .i64 a1_1] 23 (0, 0))) ∧ Aside0 (w'.heap[gb144]? = some (.cells #[(.slice none 0 0), (.slice none 0 0)] 63 (0, 0))) ∧ Aside0 (w'.heap[gb148]? = some (.cells #[u149000, u149001] 63 (0, 0))) ∧ Aside0 (Below w.heap.size w w'))
 case atStart => exact ⟨(y145), (([] : List Int)), (.slice Ao10 y145.length co10), (.slice none 0 0), H', ⟨Nat.le_refl _⟩, ⟨by (with_reducible repeat (first | apply Kd.R_alloc | apply Kd.R_drewN | apply Kd.R_drew)); exact Kd.R_mono (Kd.R_far (p := ⟨gb148, 1, none⟩) (Kd.R_far (p := ⟨gb148, 0, none⟩) (Kd.R_types HO147.out BK148.out (by decide)) (fun _ hk => hk.2) (.slice Ao10 y145.length co10)) (fun _ hk => hk.2) (.slice none 0 0)) (fun _ hk => trivial)⟩, ⟨by first | exact Kd.R_nil _ _ _ _ _ | exact Kd.N_nil _ _ _ _ _ | exact Kd.V_nil _ _ _ _ _ | exact Kd.Q_nil _ _ _ _ _ | exact Kd.S_nil _ _ _ _ _⟩, ⟨by (with_reducible repeat (first | refine blk_drewN ?_ _ | refine blk_drew ?_ | refine blk_alloc ?_ _)); refine blk_far ?_ NB143_148.out _; (with_reducible repeat (first | refine blk_drewN ?_ _ | refine blk_drew ?_ | refine blk_alloc ?_ _)); refine blk_far ?_ NB143_148.out _; (with_reducible repeat (first | refine blk_drewN ?_ _ | refine blk_drew ?_ | refine blk_alloc ?_ _)); exact BK143.out⟩, ⟨by (with_reducible repeat (first | refine blk_drewN ?_ _ | refine blk_drew ?_ | refine blk_alloc ?_ _)); refine blk_far ?_ NB144_148.out _; (with_reducible repeat (first | refine blk_drewN ?_ _ | refine blk_drew ?_ | refine blk_alloc ?_ _)); refine blk_far ?_ NB144_148.out _; (with_reducible repeat (first | refine blk_drewN ?_ _ | refine blk_drew ?_ | refine blk_alloc ?_ _)); exact BK144.out⟩, ⟨by (with_reducible repeat (first | refine blk_drewN ?_ _ | refine blk_drew ?_ | refine blk_alloc ?_ _)); refine blk_put (cs := #[.slice Ao10 y145.length co10, .slice none 0 0]) ?_ 1 _ rfl; (with_reducible repeat (first | refine blk_drewN ?_ _ | refine blk_drew ?_ | refine blk_alloc ?_ _)); refine blk_put (cs := #[.slice none 0 0, .slice none 0 0]) ?_ 0 _ rfl; (with_reducible repeat (first | refine blk_drewN ?_ _ | refine blk_drew ?_ | refine blk_alloc ?_ _)); exact BK148.out⟩, ⟨by repeat (first | (with_reducible first | exact HB.out | apply below_alloc | apply pw_below_drewN | apply below_drew1 | refine below_set ?_ GE143.out | refine below_set ?_ GE144.out | refine below_set ?_ GE148.out) | exact HB.out)⟩⟩
 case round =>
  clear H'
  try clear c1
  try clear p2
  try clear c3
  try clear c6
  try clear c12
  try clear c13
  try clear hcz14_0
  try clear hcz14_1
  try clear hcz7_0
  try clear hcz7_1
  try clear hfz14_0
  try clear hfz14_1
  try clear hfz7_0
  try clear hfz7_1
  obtain ⟨x149000_1, x149001_1, u149000, u149001, HA, HK1, HO_149000, HO_149001, BK143, BK144, BK148, HB⟩ := hrel
  cases gk with
  | zero => exact absurd HA.out (by simp [tags_runs.l0])
  | succ k1 =>
   have H := HA.out
   clear HA
   simp only [tags_runs.l0] at H
   by_cases c15 : (x149001_1.length : Int) < a2
   ·rw [if_pos c15] at H
    have c15b0 : decide ((x149001_1.length : Int) < a2) = true := decide_eq_true c15
    clear c15
    obtain ⟨ji16, hji16⟩ : ∃ j_ : Int, (wrap64 ((x149000_1.length : Int) - 1)) = j_ := ⟨_, rfl⟩
    replace H : (if 0 ≤ (ji16) then (if (ji16) < (x149000_1.length : Int) then ((tags_step.f l0 ((rd_T66 x149000_1 (ji16)).f0) ((rd_T66 x149000_1 (ji16)).f1.f0) ((rd_T66 x149000_1 (ji16)).f1.f1)).bind fun bt150 => (if bt150.2.2.2.2 = true then ((some (([(⟨bt150.1, (⟨bt150.2.1, bt150.2.2.1⟩ : S23)⟩ : S66)] : List (S66)) : List (S66))).bind fun y156 => (if x149000_1.length + y156.length < 5864062014805 then ((some (([bt150.2.2.2.1] : List Int) : List Int)).bind fun y162 => (if x149001_1.length + y162.length < 17592186044416 then (tags_runs.l0 k1 l0 a2 (x149000_1 ++ y156) (x149001_1 ++ y162)) else (none))) else (none))) else (some (x149000_1, x149001_1)))) else (none)) else (none)) = some (r1, r2) := by first | (rw [hji16] at H; exact H) | (simp only [hji16] at H ⊢; exact H)
    have hji16w : (IntKind.i64.wrap ((x149000_1.length : Int) - 1)) = ji16 := (i64_w _).trans hji16
    by_cases c17 : 0 ≤ (ji16)
    ·rw [if_pos c17] at H
     have c17b0 : decide (0 ≤ (ji16)) = true := decide_eq_true c17
     clear c17
     by_cases c18 : (ji16) < (x149000_1.length : Int)
     ·rw [if_pos c18] at H
      have c18b0 : decide ((ji16) < (x149000_1.length : Int)) = true := decide_eq_true c18
      clear c18
      replace H := Option.bind_eq_some_iff.mp H
      obtain ⟨⟨t150, t151, t152, t153, t154⟩, A190, H⟩ := H
      replace H : (if t154 = true then ((some (([(⟨t150, (⟨t151, t152⟩ : S23)⟩ : S66)] : List (S66)) : List (S66))).bind fun y156 => (if x149000_1.length + y156.length < 5864062014805 then ((some (([t153] : List Int) : List Int)).bind fun y162 => (if x149001_1.length + y162.length < 17592186044416 then (tags_runs.l0 k1 l0 a2 (x149000_1 ++ y156) (x149001_1 ++ y162)) else (none))) else (none))) else (some (x149000_1, x149001_1))) = some (r1, r2) := H
      have A19 := Aside0.mk A190
      clear A190
      by_cases c20 : t154 = true
      ·subst c20
       have H1 : ((some (([(⟨t150, (⟨t151, t152⟩ : S23)⟩ : S66)] : List (S66)) : List (S66))).bind fun y156 => (if x149000_1.length + y156.length < 5864062014805 then ((some (([t153] : List Int) : List Int)).bind fun y162 => (if x149001_1.length + y162.length < 17592186044416 then (tags_runs.l0 k1 l0 a2 (x149000_1 ++ y156) (x149001_1 ++ y162)) else (none))) else (none))) = some (r1, r2) := by rw [if_pos rfl] at H; exact H
       clear H
       have H := H1
       clear H1
       obtain ⟨y156, hy156⟩ : ∃ y_ : List (S66), y_ = (([(⟨t150, (⟨t151, t152⟩ : S23)⟩ : S66)] : List (S66))) := ⟨_, rfl⟩
       replace H : (if x149000_1.length + y156.length < 5864062014805 then ((some (([t153] : List Int) : List Int)).bind fun y162 => (if x149001_1.length + y162.length < 17592186044416 then (tags_runs.l0 k1 l0 a2 (x149000_1 ++ y156) (x149001_1 ++ y162)) else (none))) else (none)) = some (r1, r2) := by first | (rw [hy156]; with_reducible exact H) | (have H2_ := (Option.bind_some _ _).symm.trans H; rw [hy156]; with_reducible exact H2_) | (have H2_ := (Option.bind_some _ _).symm.trans H; with_reducible exact H2_) | with_reducible exact H | (rw [hy156]; exact H) | exact H
       have Ny156 := Aside0.mk hy156
       clear hy156
       by_cases c21 : x149000_1.length + y156.length < 5864062014805
       ·rw [if_pos c21] at H
        have LMc21 := Aside0.mk c21
        clear c21
        obtain ⟨y159, hy159⟩ : ∃ y_ : List (S66), y_ = (x149000_1 ++ y156) := ⟨_, rfl⟩
        replace H : ((some (([t153] : List Int) : List Int)).bind fun y162 => (if x149001_1.length + y162.length < 17592186044416 then (tags_runs.l0 k1 l0 a2 y159 (x149001_1 ++ y162)) else (none))) = some (r1, r2) := by first | (rw [hy159]; with_reducible exact H) | (have H2_ := (Option.bind_some _ _).symm.trans H; rw [hy159]; with_reducible exact H2_) | (have H2_ := (Option.bind_some _ _).symm.trans H; with_reducible exact H2_) | with_reducible exact H | (rw [hy159]; exact H) | exact H
        have Ny159 := Aside0.mk hy159
        clear hy159
        obtain ⟨y162, hy162⟩ : ∃ y_ : List Int, y_ = (([t153] : List Int)) := ⟨_, rfl⟩
        replace H : (if x149001_1.length + y162.length < 17592186044416 then (tags_runs.l0 k1 l0 a2 y159 (x149001_1 ++ y162)) else (none)) = some (r1, r2) := by first | (rw [hy162]; with_reducible exact H) | (have H2_ := (Option.bind_some _ _).symm.trans H; rw [hy162]; with_reducible exact H2_) | (have H2_ := (Option.bind_some _ _).symm.trans H; with_reducible exact H2_) | with_reducible exact H | (rw [hy162]; exact H) | exact H
        have Ny162 := Aside0.mk hy162
        clear hy162
        by_cases c22 : x149001_1.length + y162.length < 17592186044416
        ·rw [if_pos c22] at H
         have LMc22 := Aside0.mk c22
         clear c22
         obtain ⟨y165, hy165⟩ : ∃ y_ : List Int, y_ = (x149001_1 ++ y162) := ⟨_, rfl⟩
         replace H : (tags_runs.l0 k1 l0 a2 y159 y165) = some (r1, r2) := by first | (rw [hy165]; with_reducible exact H) | (have H2_ := (Option.bind_some _ _).symm.trans H; rw [hy165]; with_reducible exact H2_) | (have H2_ := (Option.bind_some _ _).symm.trans H; with_reducible exact H2_) | with_reducible exact H | (rw [hy165]; exact H) | exact H
         have Ny165 := Aside0.mk hy165
         clear hy165
         have H' := Aside0.mk H
         clear H
         have hnb23 := NB148_143.out
         have hnc23 := NB143_148.out
         have hnb24 := NB148_144.out
         have hnc24 := NB144_148.out
         have hcz25_0 : wr.cell? ⟨gb148, 0, none⟩ = some (u149000) := (blk_cell BK148.out 0).trans rfl
         have hcz25_1 : wr.cell? ⟨gb148, 1, none⟩ = some (u149001) := (blk_cell BK148.out 1).trans rfl
         have hfz25_0 := blk_frozen BK148.out 0
         have hfz25_1 := blk_frozen BK148.out 1
         obtain ⟨Ao26, co26, eo26⟩ := Kd.R_slice HO_149001.out
         subst eo26
         obtain ⟨Ao27, co27, eo27⟩ := Kd.R_slice HO_149000.out
         subst eo27
         have p149 : 0 ≤ ((ji16) : Int) := of_decide_eq_true (by first | (with_reducible assumption) | assumption)
         have q149 : (ji16) < (x149000_1.length : Int) := of_decide_eq_true (by first | (with_reducible assumption) | assumption)
         obtain ⟨ad149, e149, hx149_0, hx149_1, hx149_2⟩ := at_T66 (Kd.R_reads' HO_149000.out).2.2 (ji16) p149 q149
         cases e149
         replace p149 := eq_true p149
         replace q149 := eq_true q149
         try go_wp2_with (first | ((with_reducible refine gate_callee (f := 42) rfl ?_); refine goesL_ (some 30) rfl rfl Try.func42 (by kernel_rfl) rfl #[.slice A0 l0.length c0, .agg #[.int .i64 ((rd_T66 x149000_1 (ji16)).f0), .int .i64 ((rd_T66 x149000_1 (ji16)).f1.f0), .int .i64 ((rd_T66 x149000_1 (ji16)).f1.f1)]] rfl (by (try simp only [List.map_toArray, List.map_cons, List.map_nil]); first | done | (simp only [hji16]; rfl) | rfl | (simp only [List.length_drop, List.length_take]; rfl)) ?_; (with_reducible refine (tags_step.calls _ _ l0 ((rd_T66 x149000_1 (ji16)).f0) ((rd_T66 x149000_1 (ji16)).f1.f0) ((rd_T66 x149000_1 (ji16)).f1.f1) t150 t151 t152 t153 true _ ?side1 ?side2 A19.out).mono ?_); (case side1 => exact kc_ (Kd.C_below HR0.out HB.out)); (case side2 => exact HC0.out); rintro e w28 ⟨rfl, hb⟩; refine ⟨_, rfl, ?_⟩; have n0_ := Aside0.mk (Kd.R_below (kr_ (HO_149000.out)) hb); have n1_ := Aside0.mk (Kd.R_below (kr_ (HO_149001.out)) hb); have n2_ := Aside0.mk (bkb_ BK143.out hb); have n3_ := Aside0.mk (bkb_ BK144.out hb); have n4_ := Aside0.mk (bkb_ BK148.out hb); have n5_ := Aside0.mk (below_step (hb_ HB.out) hb); clear HO_149000; clear HO_149001; clear BK143; clear BK144; clear BK148; clear HB; have HO_149000 := n0_; have HO_149001 := n1_; have BK143 := n2_; have BK144 := n3_; have BK148 := n4_; have HB := n5_; clear n0_ n1_ n2_ n3_ n4_ n5_; (try clear hb); (try clear hb2); (try clear hk); (try clear hi)) | ((with_reducible refine gate_dst (N := 8) rfl ?_); refine box_event ?hg (N := 8) ?hd (cs := #[.int .i64 0, .int .i64 0, .int .i64 0]) (t := 66) ?hr ?_; (case hd => rfl); (case hg => rfl); (case hr => first | (go_simp; done) | (go_simp; rfl)); intro gb155 hg w29 hbox hb; have n0_ := Aside0.mk (Kd.R_below (Kd.R_elderB (kr_ (HO_149000.out)) gb155 (Nat.le_of_eq hg.symm)) hb); have n1_ := Aside0.mk (Kd.R_below (kr_ (HO_149001.out)) hb); have n2_ := Aside0.mk (bkb_ BK143.out hb); have n3_ := Aside0.mk (bkb_ BK144.out hb); have n4_ := Aside0.mk (bkb_ BK148.out hb); have n5_ := Aside0.mk (below_step (hb_ HB.out) hb); have n6_ := Aside0.mk (hbox); have n7_ := Aside0.mk ((by rw [hg]; exact (below_size (hb_ HB.out)) : w.heap.size ≤ gb155)); have n8_ := Aside0.mk ((by rw [hg]; exact (below_size (hb_ HB.out)) : w.heap.size ≤ gb155)); have n9_ := Aside0.mk ((by rw [hg]; exact Nat.ne_of_lt (bkl_ BK143.out) : gb143 ≠ gb155)); have n10_ := Aside0.mk ((by rw [hg]; exact Nat.ne_of_gt (bkl_ BK143.out) : gb155 ≠ gb143)); have n11_ := Aside0.mk ((by rw [hg]; exact Nat.ne_of_lt (bkl_ BK144.out) : gb144 ≠ gb155)); have n12_ := Aside0.mk ((by rw [hg]; exact Nat.ne_of_gt (bkl_ BK144.out) : gb155 ≠ gb144)); have n13_ := Aside0.mk ((by rw [hg]; exact Nat.ne_of_lt (bkl_ BK148.out) : gb148 ≠ gb155)); have n14_ := Aside0.mk ((by rw [hg]; exact Nat.ne_of_gt (bkl_ BK148.out) : gb155 ≠ gb148)); clear HO_149000; clear HO_149001; clear BK143; clear BK144; clear BK148; clear HB; have HO_149000 := n0_; have HO_149001 := n1_; have BK143 := n2_; have BK144 := n3_; have BK148 := n4_; have HB := n5_; have BK155 := n6_; have GW155 := n7_; have GE155 := n8_; have NB143_155 := n9_; have NB155_143 := n10_; have NB144_155 := n11_; have NB155_144 := n12_; have NB148_155 := n13_; have NB155_148 := n14_; clear n0_ n1_ n2_ n3_ n4_ n5_ n6_ n7_ n8_ n9_ n10_ n11_ n12_ n13_ n14_; clear hb hbox hg; have hnb30 := NB155_143.out; have hnc30 := NB143_155.out; have hnb31 := NB155_144.out; have hnc31 := NB144_155.out; have hnb32 := NB155_148.out; have hnc32 := NB148_155.out; have hcz33_0 : w29.cell? ⟨gb155, 0, none⟩ = some (.int .i64 0) := (blk_cell BK155.out 0).trans rfl; have hcz33_1 : w29.cell? ⟨gb155, 1, none⟩ = some (.int .i64 0) := (blk_cell BK155.out 1).trans rfl; have hcz33_2 : w29.cell? ⟨gb155, 2, none⟩ = some (.int .i64 0) := (blk_cell BK155.out 2).trans rfl; have hfz33_0 := blk_frozen BK155.out 0; have hfz33_1 := blk_frozen BK155.out 1; have hfz33_2 := blk_frozen BK155.out 2))
         have n0_ : Aside0 (Kd.R k66 66 (((w29.setCell ⟨gb155, 0, none⟩ (.int .i64 t150)).setCell ⟨gb155, 1, none⟩ (.int .i64 t151)).setCell ⟨gb155, 2, none⟩ (.int .i64 t152)) w.heap.size (fun k_ => k_ ≠ gb155) (.slice (some ad149) x149000_1.length co27) x149000_1) := ⟨by (with_reducible repeat (first | apply Kd.R_alloc | apply Kd.R_drewN | apply Kd.R_drew)); exact Kd.R_mono (Kd.R_far (p := ⟨gb155, 2, none⟩) (Kd.R_far (p := ⟨gb155, 1, none⟩) (Kd.R_far (p := ⟨gb155, 0, none⟩) (Kd.R_mono HO_149000.out (fun k_ hk => (⟨hk, hk.2⟩ : _ ∧ k_ ≠ gb155))) (fun _ hk => hk.2) (.int .i64 t150)) (fun _ hk => hk.2) (.int .i64 t151)) (fun _ hk => hk.2) (.int .i64 t152)) (fun _ hk => hk.1.2)⟩
         have n1_ : Aside0 (Kd.R (Kd.int .i64) 3 (((w29.setCell ⟨gb155, 0, none⟩ (.int .i64 t150)).setCell ⟨gb155, 1, none⟩ (.int .i64 t151)).setCell ⟨gb155, 2, none⟩ (.int .i64 t152)) w.heap.size (fun _ => True) (.slice Ao26 x149001_1.length co26) x149001_1) := ⟨by (with_reducible repeat (first | apply Kd.R_alloc | apply Kd.R_drewN | apply Kd.R_drew)); exact Kd.R_mono (Kd.R_far (p := ⟨gb155, 2, none⟩) (Kd.R_far (p := ⟨gb155, 1, none⟩) (Kd.R_far (p := ⟨gb155, 0, none⟩) (Kd.R_types HO_149001.out BK155.out (by decide)) (fun _ hk => hk.2) (.int .i64 t150)) (fun _ hk => hk.2) (.int .i64 t151)) (fun _ hk => hk.2) (.int .i64 t152)) (fun _ hk => trivial)⟩
         have n2_ : Aside0 ((((w29.setCell ⟨gb155, 0, none⟩ (.int .i64 t150)).setCell ⟨gb155, 1, none⟩ (.int .i64 t151)).setCell ⟨gb155, 2, none⟩ (.int .i64 t152)).heap[gb143]? = some (.cells #[.int .i64 a1_0, .int .i64 a1_1] 23 (0, 0))) := ⟨by (with_reducible repeat (first | refine blk_drewN ?_ _ | refine blk_drew ?_ | refine blk_alloc ?_ _)); refine blk_far ?_ NB143_155.out _; (with_reducible repeat (first | refine blk_drewN ?_ _ | refine blk_drew ?_ | refine blk_alloc ?_ _)); refine blk_far ?_ NB143_155.out _; (with_reducible repeat (first | refine blk_drewN ?_ _ | refine blk_drew ?_ | refine blk_alloc ?_ _)); refine blk_far ?_ NB143_155.out _; (with_reducible repeat (first | refine blk_drewN ?_ _ | refine blk_drew ?_ | refine blk_alloc ?_ _)); exact BK143.out⟩
         have n3_ : Aside0 ((((w29.setCell ⟨gb155, 0, none⟩ (.int .i64 t150)).setCell ⟨gb155, 1, none⟩ (.int .i64 t151)).setCell ⟨gb155, 2, none⟩ (.int .i64 t152)).heap[gb144]? = some (.cells #[.slice none 0 0, .slice none 0 0] 63 (0, 0))) := ⟨by (with_reducible repeat (first | refine blk_drewN ?_ _ | refine blk_drew ?_ | refine blk_alloc ?_ _)); refine blk_far ?_ NB144_155.out _; (with_reducible repeat (first | refine blk_drewN ?_ _ | refine blk_drew ?_ | refine blk_alloc ?_ _)); refine blk_far ?_ NB144_155.out _; (with_reducible repeat (first | refine blk_drewN ?_ _ | refine blk_drew ?_ | refine blk_alloc ?_ _)); refine blk_far ?_ NB144_155.out _; (with_reducible repeat (first | refine blk_drewN ?_ _ | refine blk_drew ?_ | refine blk_alloc ?_ _)); exact BK144.out⟩
         have n4_ : Aside0 ((((w29.setCell ⟨gb155, 0, none⟩ (.int .i64 t150)).setCell ⟨gb155, 1, none⟩ (.int .i64 t151)).setCell ⟨gb155, 2, none⟩ (.int .i64 t152)).heap[gb148]? = some (.cells #[.slice (some ad149) x149000_1.length co27, .slice Ao26 x149001_1.length co26] 63 (0, 0))) := ⟨by (with_reducible repeat (first | refine blk_drewN ?_ _ | refine blk_drew ?_ | refine blk_alloc ?_ _)); refine blk_far ?_ NB148_155.out _; (with_reducible repeat (first | refine blk_drewN ?_ _ | refine blk_drew ?_ | refine blk_alloc ?_ _)); refine blk_far ?_ NB148_155.out _; (with_reducible repeat (first | refine blk_drewN ?_ _ | refine blk_drew ?_ | refine blk_alloc ?_ _)); refine blk_far ?_ NB148_155.out _; (with_reducible repeat (first | refine blk_drewN ?_ _ | refine blk_drew ?_ | refine blk_alloc ?_ _)); exact BK148.out⟩
         have n5_ : Aside0 ((((w29.setCell ⟨gb155, 0, none⟩ (.int .i64 t150)).setCell ⟨gb155, 1, none⟩ (.int .i64 t151)).setCell ⟨gb155, 2, none⟩ (.int .i64 t152)).heap[gb155]? = some (.cells #[.int .i64 t150, .int .i64 t151, .int .i64 t152] 66 (0, 0))) := ⟨by (with_reducible repeat (first | refine blk_drewN ?_ _ | refine blk_drew ?_ | refine blk_alloc ?_ _)); refine blk_put (cs := #[.int .i64 t150, .int .i64 t151, .int .i64 0]) ?_ 2 _ rfl; (with_reducible repeat (first | refine blk_drewN ?_ _ | refine blk_drew ?_ | refine blk_alloc ?_ _)); refine blk_put (cs := #[.int .i64 t150, .int .i64 0, .int .i64 0]) ?_ 1 _ rfl; (with_reducible repeat (first | refine blk_drewN ?_ _ | refine blk_drew ?_ | refine blk_alloc ?_ _)); refine blk_put (cs := #[.int .i64 0, .int .i64 0, .int .i64 0]) ?_ 0 _ rfl; (with_reducible repeat (first | refine blk_drewN ?_ _ | refine blk_drew ?_ | refine blk_alloc ?_ _)); exact BK155.out⟩
         have n6_ : Aside0 (Below w.heap.size w (((w29.setCell ⟨gb155, 0, none⟩ (.int .i64 t150)).setCell ⟨gb155, 1, none⟩ (.int .i64 t151)).setCell ⟨gb155, 2, none⟩ (.int .i64 t152))) := ⟨by repeat (first | (with_reducible first | exact HB.out | apply below_alloc | apply pw_below_drewN | apply below_drew1 | refine below_set ?_ GE143.out | refine below_set ?_ GE144.out | refine below_set ?_ GE148.out | refine below_set ?_ GE155.out) | exact HB.out)⟩
         (try clear HO_149000)
         (try clear HO_149001)
         (try clear BK143)
         (try clear BK144)
         (try clear BK148)
         (try clear BK155)
         (try clear HB)
         generalize (((w29.setCell ⟨gb155, 0, none⟩ (.int .i64 t150)).setCell ⟨gb155, 1, none⟩ (.int .i64 t151)).setCell ⟨gb155, 2, none⟩ (.int .i64 t152)) = w34 at n0_ n1_ n2_ n3_ n4_ n5_ n6_ ⊢
         have HO_149000 := n0_
         have HO_149001 := n1_
         have BK143 := n2_
         have BK144 := n3_
         have BK148 := n4_
         have BK155 := n5_
         have HB := n6_
         clear n0_ n1_ n2_ n3_ n4_ n5_ n6_
         have n0_ := Aside0.mk (Kd.R_drew HO_149000.out)
         have n1_ := Aside0.mk (Kd.R_drew HO_149001.out)
         have n2_ := Aside0.mk (blk_drew BK143.out)
         have n3_ := Aside0.mk (blk_drew BK144.out)
         have n4_ := Aside0.mk (blk_drew BK148.out)
         have n5_ := Aside0.mk (blk_drew BK155.out)
         have n6_ := Aside0.mk (below_drew1 HB.out)
         clear HO_149000
         clear HO_149001
         clear BK143
         clear BK144
         clear BK148
         clear BK155
         clear HB
         have HO_149000 := n0_
         have HO_149001 := n1_
         have BK143 := n2_
         have BK144 := n3_
         have BK148 := n4_
         have BK155 := n5_
         have HB := n6_
         clear n0_ n1_ n2_ n3_ n4_ n5_ n6_
         refine start_ (n := 14) (S := fun w' => w'.cell? ⟨gb148, 0, none⟩ = some (.slice (some ad149) x149000_1.length co27) ∧ w'.cell? ⟨gb148, 1, none⟩ = some (.slice Ao26 x149001_1.length co26) ∧ w'.cell? ⟨gb155, 0, none⟩ = some (.int .i64 t150) ∧ w'.cell? ⟨gb155, 1, none⟩ = some (.int .i64 t151) ∧ w'.cell? ⟨gb155, 2, none⟩ = some (.int .i64 t152)) (ds := [11, 13]) #[false, false, false, false, false, false, false, false, false, false, false, false, false, false] (by kernel_rfl) rfl rfl ⟨(blk_cell BK148.out 0).trans rfl, (blk_cell BK148.out 1).trans rfl, (blk_cell BK155.out 0).trans rfl, (blk_cell BK155.out 1).trans rfl, (blk_cell BK155.out 2).trans rfl⟩ (fun hHeld => ?_); refine with_tabW tags_runs.tab5 tags_runs.bits5 (fun HT_ HW_ => ?_)
         generalize w34.drew = w35 at HO_149000 HO_149001 BK143 BK144 BK148 BK155 HB hHeld ⊢
         refine pure_ (i := 0) (N := some 36) (v := ?_) (a' := ?_) #[true, false, false, false, false, false, false, false, false, false, false, false, false, false] rfl rfl (any_of HT_.out (by kernel_rfl)) (fun _ _ _ h => h) (Or.inl ⟨by rfl, ?_⟩) ?_ ?_
         rotate_left
         ·intro w'
          go_simp
          with_reducible rfl
         rotate_left
         ·simp only [Act.put, List.setIfInBounds_toArray, List.set_cons_zero, List.set_cons_succ, i64_w, i32_w]
          rfl
         refine pure_ (i := 5) (N := some 41) (v := ?_) (a' := ?_) #[true, false, false, false, false, true, false, false, false, false, false, false, false, false] rfl rfl (any_of HT_.out (by kernel_rfl)) (fun _ _ _ h => h) (Or.inl ⟨by rfl, ?_⟩) ?_ ?_
         rotate_left
         ·intro w'
          go_simp
          with_reducible rfl
         rotate_left
         ·simp only [Act.put, List.setIfInBounds_toArray, List.set_cons_zero, List.set_cons_succ, i64_w, i32_w]
          rfl
         refine pure_ (i := 7) (N := some 43) (v := ?_) (a' := ?_) #[true, false, false, false, false, true, false, true, false, false, false, false, false, false] rfl rfl (any_of HT_.out (by kernel_rfl)) (fun _ _ _ h => h) (Or.inl ⟨by rfl, ?_⟩) ?_ ?_
         rotate_left
         ·intro w'
          go_simp
          with_reducible rfl
         rotate_left
         ·simp only [Act.put, List.setIfInBounds_toArray, List.set_cons_zero, List.set_cons_succ, i64_w, i32_w]
          rfl
         refine take_ (i := 1) (N := some 37) (v := ?_) (a' := ?_) #[true, true, false, false, false, true, false, true, false, false, false, false, false, false] rfl rfl (take_ofW HT_.out HW_.out (by kernel_rfl)) (fun _ _ _ h => h) (Or.inl ⟨by rfl, ?_⟩) hHeld ?_ ?_
         rotate_left
         ·rintro w' ⟨s0, s1, s2, s3, s4⟩
          go_simp
          with_reducible rfl
         rotate_left
         ·simp only [Act.put, List.setIfInBounds_toArray, List.set_cons_zero, List.set_cons_succ, i64_w, i32_w]
          rfl
         refine take_ (i := 2) (N := some 38) (v := ?_) (a' := ?_) #[true, true, true, false, false, true, false, true, false, false, false, false, false, false] rfl rfl (take_ofW HT_.out HW_.out (by kernel_rfl)) (fun _ _ _ h => h) (Or.inl ⟨by rfl, ?_⟩) hHeld ?_ ?_
         rotate_left
         ·rintro w' ⟨s0, s1, s2, s3, s4⟩
          go_simp
          with_reducible rfl
         rotate_left
         ·simp only [Act.put, List.setIfInBounds_toArray, List.set_cons_zero, List.set_cons_succ, i64_w, i32_w]
          rfl
         refine take_ (i := 6) (N := some 42) (v := ?_) (a' := ?_) #[true, true, true, false, false, true, true, true, false, false, false, false, false, false] rfl rfl (take_ofW HT_.out HW_.out (by kernel_rfl)) (fun _ _ _ h => h) (Or.inl ⟨by rfl, ?_⟩) hHeld ?_ ?_
         rotate_left
         ·rintro w' ⟨s0, s1, s2, s3, s4⟩
          go_simp
          with_reducible rfl
         rotate_left
         ·simp only [Act.put, List.setIfInBounds_toArray, List.set_cons_zero, List.set_cons_succ, i64_w, i32_w]
          rfl
         refine join_ (σ := Value × Value × Value) 4 #[true, true, true, true, true, true, true, true, true, false, true, false, false, false] (fun s_ => [(39, s_.1), (40, s_.2.1), (44, s_.2.2), (46, .pointer (some ⟨gb148, 0, none⟩))]) (fun s_ w' => (w'.cell? ⟨gb148, 0, none⟩ = some (.slice (some ad149) x149000_1.length co27) ∧ w'.cell? ⟨gb148, 1, none⟩ = some (.slice Ao26 x149001_1.length co26) ∧ w'.cell? ⟨gb155, 0, none⟩ = some (.int .i64 t150) ∧ w'.cell? ⟨gb155, 1, none⟩ = some (.int .i64 t151) ∧ w'.cell? ⟨gb155, 2, none⟩ = some (.int .i64 t152)) ∧ (Kd.R k66 66 w' w.heap.size (fun k_ => some k_ ≠ (s_.2.1 : Value).ownBlock ∧ k_ ≠ gb155) s_.1 y156) ∧ (Kd.R k66 66 w' w.heap.size (fun k_ => some k_ ≠ (s_.1 : Value).ownBlock ∧ k_ ≠ gb155) s_.2.1 y159) ∧ (Kd.R (Kd.int .i64) 3 w' w.heap.size (fun k_ => some k_ ≠ (.slice Ao26 x149001_1.length co26 : Value).ownBlock) s_.2.2 y162) ∧ (Kd.R (Kd.int .i64) 3 w' w.heap.size (fun k_ => some k_ ≠ (s_.2.2 : Value).ownBlock) (.slice Ao26 x149001_1.length co26) x149001_1) ∧ (w'.heap[gb143]? = some (.cells #[.int .i64 a1_0, .int .i64 a1_1] 23 (0, 0))) ∧ (w'.heap[gb144]? = some (.cells #[.slice none 0 0, .slice none 0 0] 63 (0, 0))) ∧ (w'.heap[gb148]? = some (.cells #[.slice (some ad149) x149000_1.length co27, .slice Ao26 x149001_1.length co26] 63 (0, 0))) ∧ (w'.heap[gb155]? = some (.cells #[.int .i64 t150, .int .i64 t151, .int .i64 t152] 66 (0, 0))) ∧ (Below w.heap.size w w')) ?_ ?_
         rotate_left
         ·intro hCont
          refine two_ (i := 3) (j := 8) (Ni := some 39) (Nj := some 44) #[true, true, true, true, false, true, true, true, false, false, false, false, false, false] #[true, true, true, false, false, true, true, true, true, false, false, false, false, false] rfl rfl rfl rfl (two_of HT_.out (by kernel_rfl)) (by decide) (by decide) (fun K hK => ?_) (fun K hK => ?_)
          ·skip
           refine Kd.R_lit_step k66 _ 66 ?hg (N := 39) ?hd (xs := ([(⟨t150, (⟨t151, t152⟩ : S23)⟩ : S66)] : List (S66))) (inner := [.int .i64 t150, .int .i64 t151, .int .i64 t152]) (ok := fun _ => True) (okp := fun _ => True) ?hr ?hp (fun _ hk => hk) trivial (Below.refl _ _) (Nat.le_refl _) (by simp) ?_; (case hd => rfl); (case hg => rfl); (case hr => first | (go_simp; done) | (go_simp; rfl)); (case hp => exact (Reps.c3 (show Kd.M k66 _ _ _ (⟨t150, (⟨t151, t152⟩ : S23)⟩ : S66) [.int .i64 t150, .int .i64 t151, .int .i64 t152] from (k66_mkM _ _ _ (⟨t150, (⟨t151, t152⟩ : S23)⟩ : S66) )) (Reps.none _ _)))
           intro v157 w36 ho37 hb hg_ hnew_
           clear hg_ hnew_
           (first | rw [← Ny156.out] at ho37 | (simp only [Int.reduceToNat] at ho37; rw [← Ny156.out] at ho37))
           have n0_ := Aside0.mk (Kd.R_elder' (kr_ (HO_149000.out)) (Kd.R_base ho37) hb)
           have n1_ := Aside0.mk (Kd.R_below (kr_ (HO_149001.out)) hb)
           have n2_ := Aside0.mk (Kd.R_lower (Kd.R_newB (Kd.R_new' ho37 (Kd.R_lt (kr_ (HO_149000.out)))) (g := gb155) (o := .cells #[.int .i64 t150, .int .i64 t151, .int .i64 t152] 66 (0, 0)) (bk_ BK155.out)) (below_size (hb_ HB.out)))
           have n3_ := Aside0.mk (bkb_ BK143.out hb)
           have n4_ := Aside0.mk (bkb_ BK144.out hb)
           have n5_ := Aside0.mk (bkb_ BK148.out hb)
           have n6_ := Aside0.mk (bkb_ BK155.out hb)
           have n7_ := Aside0.mk (below_step (hb_ HB.out) hb)
           clear HO_149000
           clear HO_149001
           clear BK143
           clear BK144
           clear BK148
           clear BK155
           clear HB
           have HO_149000 := n0_
           have HO_149001 := n1_
           have HO158 := n2_
           have BK143 := n3_
           have BK144 := n4_
           have BK148 := n5_
           have BK155 := n6_
           have HB := n7_
           clear n0_ n1_ n2_ n3_ n4_ n5_ n6_ n7_
           clear hb ho37
           obtain ⟨Ao39, co39, eo39⟩ := Kd.R_slice HO158.out
           (first | subst eo39 | (injection eo39 with f1_ f2_ f3_; have f4_ := f1_.symm; have f5_ := f3_.symm; clear f1_ f2_ f3_; subst f4_; subst f5_))
           refine hK.out _ _ ⟨(blk_cell BK148.out 0).trans rfl, (blk_cell BK148.out 1).trans rfl, (blk_cell BK155.out 0).trans rfl, (blk_cell BK155.out 1).trans rfl, (blk_cell BK155.out 2).trans rfl⟩ (fun hHeld => ?_)
           clear hK K
           refine norm_ (a' := ?_) ?_ ?_
           rotate_left
           ·show Act.put _ (some 39) _ = _
            simp only [Act.put, List.setIfInBounds_toArray, List.set_cons_zero, List.set_cons_succ, i64_w, i32_w]
            rfl
           refine two_ (i := 4) (j := 8) (Ni := some 40) (Nj := some 44) #[true, true, true, true, true, true, true, true, false, false, false, false, false, false] #[true, true, true, true, false, true, true, true, true, false, false, false, false, false] rfl rfl rfl rfl (two_of HT_.out (by kernel_rfl)) (by decide) (by decide) (fun K hK => ?_) (fun K hK => ?_)
           ·skip
            refine Kd.R_append_rows_step k66 (w0 := w) w.heap.size (by rfl) (.tmp 37) (.tmp 39) 60 66 (.agg #[(.int .i64 0), (.int .i64 0), (.int .i64 0)]) 24 rfl Try.underlying60 info66 rfl (by decide) (by omega) (.slice (some ad149) x149000_1.length co27) x149000_1 y156 _ _ _ (fun k_ => some k_ ≠ (.slice Ao39 y156.length co39 : Value).ownBlock ∧ k_ ≠ gb155) (fun _ => False) rfl rfl ?aO ?aR (fun _ _ h => h) (fun _ h => h.elim) ?aF ?aB ?aS ?aL ?_
            (case aR => exact kc_ (Kd.R_reads' HO158.out).2.2)
            (case aB => exact (hb_ HB.out))
            (case aF => exact (fun k_ hk => ⟨Kd.fresh' (Kd.R_lt (kr_ (HO158.out))) k_ hk, Kd.freshB (g := gb155) (o := .cells #[.int .i64 t150, .int .i64 t151, .int .i64 t152] 66 (0, 0)) (bk_ BK155.out) k_ hk⟩))
            (case aO => exact (by (with_reducible repeat (first | apply Kd.R_alloc | apply Kd.R_drewN | apply Kd.R_drew)); exact Kd.R_mono HO_149000.out (fun _ hk => ⟨hk.2, hk.1⟩)))
            (case aS => exact (below_size (hb_ HB.out)))
            (case aL => have := LMc21.out; omega)
            intro v160 w38 ho hb hg hat
            rw [← Ny159.out] at ho
            have n0_ := Aside0.mk (Kd.R_over' (kr_ (HO_149001.out)) (Kd.R_typed (kr_ (HO_149000.out))) (by decide) hg)
            have n1_ := Aside0.mk (blk_grown (g := gb143) (o := .cells #[.int .i64 a1_0, .int .i64 a1_1] 23 (0, 0)) (bk_ BK143.out) hg (Kd.R_ne HO_149000.out BK143.out (by decide)))
            have n2_ := Aside0.mk (blk_grown (g := gb144) (o := .cells #[.slice none 0 0, .slice none 0 0] 63 (0, 0)) (bk_ BK144.out) hg (Kd.R_ne HO_149000.out BK144.out (by decide)))
            have n3_ := Aside0.mk (blk_grown (g := gb148) (o := .cells #[.slice (some ad149) x149000_1.length co27, .slice Ao26 x149001_1.length co26] 63 (0, 0)) (bk_ BK148.out) hg (Kd.R_ne HO_149000.out BK148.out (by decide)))
            have n4_ := Aside0.mk (blk_grown (g := gb155) (o := .cells #[.int .i64 t150, .int .i64 t151, .int .i64 t152] 66 (0, 0)) (bk_ BK155.out) hg (Kd.R_away HO_149000.out (fun _ hk => hk.1)))
            have n5_ := Aside0.mk (Kd.R_after (ok := (fun k_ => k_ ≠ gb155)) (by (with_reducible repeat (first | apply Kd.R_alloc | apply Kd.R_drewN | apply Kd.R_drew)); exact Kd.R_mono HO158.out (fun _ hk => ⟨hk.2, hk.1.2⟩)) hg hat)
            have n6_ := Aside0.mk (hb)
            have n7_ := Aside0.mk (ho)
            clear HO_149001
            clear BK143
            clear BK144
            clear BK148
            clear BK155
            clear HO158
            clear HB
            clear HO_149000
            have HO_149001 := n0_
            have BK143 := n1_
            have BK144 := n2_
            have BK148 := n3_
            have BK155 := n4_
            have HO158 := n5_
            have HB := n6_
            have HO161 := n7_
            clear n0_ n1_ n2_ n3_ n4_ n5_ n6_ n7_
            clear ho hb hg hat
            refine hK.out _ _ ⟨(blk_cell BK148.out 0).trans rfl, (blk_cell BK148.out 1).trans rfl, (blk_cell BK155.out 0).trans rfl, (blk_cell BK155.out 1).trans rfl, (blk_cell BK155.out 2).trans rfl⟩ (fun hHeld => ?_)
            clear hK K
            refine norm_ (a' := ?_) ?_ ?_
            rotate_left
            ·show Act.put _ (some 40) _ = _
             simp only [Act.put, List.setIfInBounds_toArray, List.set_cons_zero, List.set_cons_succ, i64_w, i32_w]
             rfl
            refine pure_ (i := 10) (N := some 46) (v := ?_) (a' := ?_) #[true, true, true, true, true, true, true, true, false, false, true, false, false, false] rfl rfl (any_of HT_.out (by kernel_rfl)) (fun _ _ _ h => h) (Or.inl ⟨by rfl, ?_⟩) ?_ ?_
            rotate_left
            ·intro w'
             go_simp
             with_reducible rfl
            rotate_left
            ·simp only [Act.put, List.setIfInBounds_toArray, List.set_cons_zero, List.set_cons_succ, i64_w, i32_w]
             rfl
            refine one_ (i := 8) (N := some 44) #[true, true, true, true, true, true, true, true, true, false, true, false, false, false] rfl rfl (one_of HT_.out (by kernel_rfl)) (by decide) (fun K hK => ?_)
            refine Kd.R_lit_step (Kd.int .i64) _ 3 ?hg (N := 44) ?hd (xs := ([t153] : List Int)) (inner := [.int .i64 t153]) (ok := fun _ => True) (okp := fun _ => True) ?hr ?hp (fun _ hk => hk) trivial (Below.refl _ _) (Nat.le_refl _) (by simp) ?_; (case hd => rfl); (case hg => rfl); (case hr => first | (go_simp; done) | (go_simp; rfl)); (case hp => exact (Reps.one (show Kd.M (Kd.int .i64) _ _ _ t153 [.int .i64 t153] from rfl) (Reps.none _ _)))
            intro v163 w40 ho41 hb hg_ hnew_
            clear hg_ hnew_
            (first | rw [← Ny162.out] at ho41 | (simp only [Int.reduceToNat] at ho41; rw [← Ny162.out] at ho41))
            have n0_ := Aside0.mk (Kd.R_elder' (kr_ (HO_149001.out)) (Kd.R_base ho41) hb)
            have n1_ := Aside0.mk (Kd.R_below (kr_ (HO158.out)) hb)
            have n2_ := Aside0.mk (Kd.R_below (kr_ (HO161.out)) hb)
            have n3_ := Aside0.mk (Kd.R_lower (Kd.R_new' ho41 (Kd.R_lt (kr_ (HO_149001.out)))) (below_size (hb_ HB.out)))
            have n4_ := Aside0.mk (bkb_ BK143.out hb)
            have n5_ := Aside0.mk (bkb_ BK144.out hb)
            have n6_ := Aside0.mk (bkb_ BK148.out hb)
            have n7_ := Aside0.mk (bkb_ BK155.out hb)
            have n8_ := Aside0.mk (below_step (hb_ HB.out) hb)
            clear HO_149001
            clear HO158
            clear HO161
            clear BK143
            clear BK144
            clear BK148
            clear BK155
            clear HB
            have HO_149001 := n0_
            have HO158 := n1_
            have HO161 := n2_
            have HO164 := n3_
            have BK143 := n4_
            have BK144 := n5_
            have BK148 := n6_
            have BK155 := n7_
            have HB := n8_
            clear n0_ n1_ n2_ n3_ n4_ n5_ n6_ n7_ n8_
            clear hb ho41
            refine hK.out _ _ ⟨(blk_cell BK148.out 0).trans rfl, (blk_cell BK148.out 1).trans rfl, (blk_cell BK155.out 0).trans rfl, (blk_cell BK155.out 1).trans rfl, (blk_cell BK155.out 2).trans rfl⟩ (fun hHeld => ?_)
            clear hK K
            refine norm_ (a' := ?_) ?_ ?_
            rotate_left
            ·show Act.put _ (some 44) _ = _
             simp only [Act.put, List.setIfInBounds_toArray, List.set_cons_zero, List.set_cons_succ, i64_w, i32_w]
             rfl
            exact norm_ (by simp only [putAll, Act.put, List.setIfInBounds_toArray, List.set_cons_zero, List.set_cons_succ]) (hCont (.slice Ao39 y156.length co39, v160, v163) _ ⟨hHeld, (by (with_reducible repeat (first | apply Kd.R_alloc | apply Kd.R_drewN | apply Kd.R_drew)); exact Kd.R_mono HO158.out (fun _ hk => ⟨hk.2, hk.1⟩)), (kr_ (HO161.out)), (by (with_reducible repeat (first | apply Kd.R_alloc | apply Kd.R_drewN | apply Kd.R_drew)); exact Kd.R_mono HO164.out (fun _ hk => hk.2)), (by (with_reducible repeat (first | apply Kd.R_alloc | apply Kd.R_drewN | apply Kd.R_drew)); exact Kd.R_mono HO_149001.out (fun _ hk => hk.2)), (bk_ BK143.out), (bk_ BK144.out), (bk_ BK148.out), (bk_ BK155.out), (hb_ HB.out)⟩)
           ·skip
            refine Kd.R_lit_step (Kd.int .i64) _ 3 ?hg (N := 44) ?hd (xs := ([t153] : List Int)) (inner := [.int .i64 t153]) (ok := fun _ => True) (okp := fun _ => True) ?hr ?hp (fun _ hk => hk) trivial (Below.refl _ _) (Nat.le_refl _) (by simp) ?_; (case hd => rfl); (case hg => rfl); (case hr => first | (go_simp; done) | (go_simp; rfl)); (case hp => exact (Reps.one (show Kd.M (Kd.int .i64) _ _ _ t153 [.int .i64 t153] from rfl) (Reps.none _ _)))
            intro v163 w38 ho39 hb hg_ hnew_
            clear hg_ hnew_
            (first | rw [← Ny162.out] at ho39 | (simp only [Int.reduceToNat] at ho39; rw [← Ny162.out] at ho39))
            have n0_ := Aside0.mk (Kd.R_below (kr_ (HO_149000.out)) hb)
            have n1_ := Aside0.mk (Kd.R_elder' (kr_ (HO_149001.out)) (Kd.R_base ho39) hb)
            have n2_ := Aside0.mk (Kd.R_below (kr_ (HO158.out)) hb)
            have n3_ := Aside0.mk (Kd.R_lower (Kd.R_new' ho39 (Kd.R_lt (kr_ (HO_149001.out)))) (below_size (hb_ HB.out)))
            have n4_ := Aside0.mk (bkb_ BK143.out hb)
            have n5_ := Aside0.mk (bkb_ BK144.out hb)
            have n6_ := Aside0.mk (bkb_ BK148.out hb)
            have n7_ := Aside0.mk (bkb_ BK155.out hb)
            have n8_ := Aside0.mk (below_step (hb_ HB.out) hb)
            clear HO_149000
            clear HO_149001
            clear HO158
            clear BK143
            clear BK144
            clear BK148
            clear BK155
            clear HB
            have HO_149000 := n0_
            have HO_149001 := n1_
            have HO158 := n2_
            have HO164 := n3_
            have BK143 := n4_
            have BK144 := n5_
            have BK148 := n6_
            have BK155 := n7_
            have HB := n8_
            clear n0_ n1_ n2_ n3_ n4_ n5_ n6_ n7_ n8_
            clear hb ho39
            obtain ⟨Ao41, co41, eo41⟩ := Kd.R_slice HO158.out
            (first | subst eo41 | (injection eo41 with f1_ f2_ f3_; have f4_ := f1_.symm; have f5_ := f3_.symm; clear f1_ f2_ f3_; subst f4_; subst f5_))
            refine hK.out _ _ ⟨(blk_cell BK148.out 0).trans rfl, (blk_cell BK148.out 1).trans rfl, (blk_cell BK155.out 0).trans rfl, (blk_cell BK155.out 1).trans rfl, (blk_cell BK155.out 2).trans rfl⟩ (fun hHeld => ?_)
            clear hK K
            refine norm_ (a' := ?_) ?_ ?_
            rotate_left
            ·show Act.put _ (some 44) _ = _
             simp only [Act.put, List.setIfInBounds_toArray, List.set_cons_zero, List.set_cons_succ, i64_w, i32_w]
             rfl
            refine one_ (i := 4) (N := some 40) #[true, true, true, true, true, true, true, true, true, false, false, false, false, false] rfl rfl (one_of HT_.out (by kernel_rfl)) (by decide) (fun K hK => ?_)
            refine Kd.R_append_rows_step k66 (w0 := w) w.heap.size (by rfl) (.tmp 37) (.tmp 39) 60 66 (.agg #[(.int .i64 0), (.int .i64 0), (.int .i64 0)]) 24 rfl Try.underlying60 info66 rfl (by decide) (by omega) (.slice (some ad149) x149000_1.length co27) x149000_1 y156 _ _ _ (fun k_ => some k_ ≠ (.slice Ao41 y156.length co41 : Value).ownBlock ∧ k_ ≠ gb155) (fun _ => False) rfl rfl ?aO ?aR (fun _ _ h => h) (fun _ h => h.elim) ?aF ?aB ?aS ?aL ?_
            (case aR => exact kc_ (Kd.R_reads' HO158.out).2.2)
            (case aB => exact (hb_ HB.out))
            (case aF => exact (fun k_ hk => ⟨Kd.fresh' (Kd.R_lt (kr_ (HO158.out))) k_ hk, Kd.freshB (g := gb155) (o := .cells #[.int .i64 t150, .int .i64 t151, .int .i64 t152] 66 (0, 0)) (bk_ BK155.out) k_ hk⟩))
            (case aO => exact (by (with_reducible repeat (first | apply Kd.R_alloc | apply Kd.R_drewN | apply Kd.R_drew)); exact Kd.R_mono HO_149000.out (fun _ hk => ⟨hk.2, hk.1⟩)))
            (case aS => exact (below_size (hb_ HB.out)))
            (case aL => have := LMc21.out; omega)
            intro v160 w40 ho hb hg hat
            rw [← Ny159.out] at ho
            have n0_ := Aside0.mk (Kd.R_over' (kr_ (HO_149001.out)) (Kd.R_typed (kr_ (HO_149000.out))) (by decide) hg)
            have n1_ := Aside0.mk (blk_grown (g := gb143) (o := .cells #[.int .i64 a1_0, .int .i64 a1_1] 23 (0, 0)) (bk_ BK143.out) hg (Kd.R_ne HO_149000.out BK143.out (by decide)))
            have n2_ := Aside0.mk (blk_grown (g := gb144) (o := .cells #[.slice none 0 0, .slice none 0 0] 63 (0, 0)) (bk_ BK144.out) hg (Kd.R_ne HO_149000.out BK144.out (by decide)))
            have n3_ := Aside0.mk (blk_grown (g := gb148) (o := .cells #[.slice (some ad149) x149000_1.length co27, .slice Ao26 x149001_1.length co26] 63 (0, 0)) (bk_ BK148.out) hg (Kd.R_ne HO_149000.out BK148.out (by decide)))
            have n4_ := Aside0.mk (blk_grown (g := gb155) (o := .cells #[.int .i64 t150, .int .i64 t151, .int .i64 t152] 66 (0, 0)) (bk_ BK155.out) hg (Kd.R_away HO_149000.out (fun _ hk => hk.1)))
            have n5_ := Aside0.mk (Kd.R_after (ok := (fun k_ => k_ ≠ gb155)) (by (with_reducible repeat (first | apply Kd.R_alloc | apply Kd.R_drewN | apply Kd.R_drew)); exact Kd.R_mono HO158.out (fun _ hk => ⟨hk.2, hk.1.2⟩)) hg hat)
            have n6_ := Aside0.mk (Kd.R_over' (kr_ (HO164.out)) (Kd.R_typed (kr_ (HO_149000.out))) (by decide) hg)
            have n7_ := Aside0.mk (hb)
            have n8_ := Aside0.mk (ho)
            clear HO_149001
            clear BK143
            clear BK144
            clear BK148
            clear BK155
            clear HO158
            clear HO164
            clear HB
            clear HO_149000
            have HO_149001 := n0_
            have BK143 := n1_
            have BK144 := n2_
            have BK148 := n3_
            have BK155 := n4_
            have HO158 := n5_
            have HO164 := n6_
            have HB := n7_
            have HO161 := n8_
            clear n0_ n1_ n2_ n3_ n4_ n5_ n6_ n7_ n8_
            clear ho hb hg hat
            refine hK.out _ _ ⟨(blk_cell BK148.out 0).trans rfl, (blk_cell BK148.out 1).trans rfl, (blk_cell BK155.out 0).trans rfl, (blk_cell BK155.out 1).trans rfl, (blk_cell BK155.out 2).trans rfl⟩ (fun hHeld => ?_)
            clear hK K
            refine norm_ (a' := ?_) ?_ ?_
            rotate_left
            ·show Act.put _ (some 40) _ = _
             simp only [Act.put, List.setIfInBounds_toArray, List.set_cons_zero, List.set_cons_succ, i64_w, i32_w]
             rfl
            refine pure_ (i := 10) (N := some 46) (v := ?_) (a' := ?_) #[true, true, true, true, true, true, true, true, true, false, true, false, false, false] rfl rfl (any_of HT_.out (by kernel_rfl)) (fun _ _ _ h => h) (Or.inl ⟨by rfl, ?_⟩) ?_ ?_
            rotate_left
            ·intro w'
             go_simp
             with_reducible rfl
            rotate_left
            ·simp only [Act.put, List.setIfInBounds_toArray, List.set_cons_zero, List.set_cons_succ, i64_w, i32_w]
             rfl
            exact norm_ (by simp only [putAll, Act.put, List.setIfInBounds_toArray, List.set_cons_zero, List.set_cons_succ]) (hCont (.slice Ao41 y156.length co41, v160, v163) _ ⟨hHeld, (by (with_reducible repeat (first | apply Kd.R_alloc | apply Kd.R_drewN | apply Kd.R_drew)); exact Kd.R_mono HO158.out (fun _ hk => ⟨hk.2, hk.1⟩)), (kr_ (HO161.out)), (by (with_reducible repeat (first | apply Kd.R_alloc | apply Kd.R_drewN | apply Kd.R_drew)); exact Kd.R_mono HO164.out (fun _ hk => hk.2)), (by (with_reducible repeat (first | apply Kd.R_alloc | apply Kd.R_drewN | apply Kd.R_drew)); exact Kd.R_mono HO_149001.out (fun _ hk => hk.2)), (bk_ BK143.out), (bk_ BK144.out), (bk_ BK148.out), (bk_ BK155.out), (hb_ HB.out)⟩)
          ·skip
           refine Kd.R_lit_step (Kd.int .i64) _ 3 ?hg (N := 44) ?hd (xs := ([t153] : List Int)) (inner := [.int .i64 t153]) (ok := fun _ => True) (okp := fun _ => True) ?hr ?hp (fun _ hk => hk) trivial (Below.refl _ _) (Nat.le_refl _) (by simp) ?_; (case hd => rfl); (case hg => rfl); (case hr => first | (go_simp; done) | (go_simp; rfl)); (case hp => exact (Reps.one (show Kd.M (Kd.int .i64) _ _ _ t153 [.int .i64 t153] from rfl) (Reps.none _ _)))
           intro v163 w36 ho37 hb hg_ hnew_
           clear hg_ hnew_
           (first | rw [← Ny162.out] at ho37 | (simp only [Int.reduceToNat] at ho37; rw [← Ny162.out] at ho37))
           have n0_ := Aside0.mk (Kd.R_below (kr_ (HO_149000.out)) hb)
           have n1_ := Aside0.mk (Kd.R_elder' (kr_ (HO_149001.out)) (Kd.R_base ho37) hb)
           have n2_ := Aside0.mk (Kd.R_lower (Kd.R_new' ho37 (Kd.R_lt (kr_ (HO_149001.out)))) (below_size (hb_ HB.out)))
           have n3_ := Aside0.mk (bkb_ BK143.out hb)
           have n4_ := Aside0.mk (bkb_ BK144.out hb)
           have n5_ := Aside0.mk (bkb_ BK148.out hb)
           have n6_ := Aside0.mk (bkb_ BK155.out hb)
           have n7_ := Aside0.mk (below_step (hb_ HB.out) hb)
           clear HO_149000
           clear HO_149001
           clear BK143
           clear BK144
           clear BK148
           clear BK155
           clear HB
           have HO_149000 := n0_
           have HO_149001 := n1_
           have HO164 := n2_
           have BK143 := n3_
           have BK144 := n4_
           have BK148 := n5_
           have BK155 := n6_
           have HB := n7_
           clear n0_ n1_ n2_ n3_ n4_ n5_ n6_ n7_
           clear hb ho37
           refine hK.out _ _ ⟨(blk_cell BK148.out 0).trans rfl, (blk_cell BK148.out 1).trans rfl, (blk_cell BK155.out 0).trans rfl, (blk_cell BK155.out 1).trans rfl, (blk_cell BK155.out 2).trans rfl⟩ (fun hHeld => ?_)
           clear hK K
           refine norm_ (a' := ?_) ?_ ?_
           rotate_left
           ·show Act.put _ (some 44) _ = _
            simp only [Act.put, List.setIfInBounds_toArray, List.set_cons_zero, List.set_cons_succ, i64_w, i32_w]
            rfl
           refine one_ (i := 3) (N := some 39) #[true, true, true, true, false, true, true, true, true, false, false, false, false, false] rfl rfl (one_of HT_.out (by kernel_rfl)) (by decide) (fun K hK => ?_)
           refine Kd.R_lit_step k66 _ 66 ?hg (N := 39) ?hd (xs := ([(⟨t150, (⟨t151, t152⟩ : S23)⟩ : S66)] : List (S66))) (inner := [.int .i64 t150, .int .i64 t151, .int .i64 t152]) (ok := fun _ => True) (okp := fun _ => True) ?hr ?hp (fun _ hk => hk) trivial (Below.refl _ _) (Nat.le_refl _) (by simp) ?_; (case hd => rfl); (case hg => rfl); (case hr => first | (go_simp; done) | (go_simp; rfl)); (case hp => exact (Reps.c3 (show Kd.M k66 _ _ _ (⟨t150, (⟨t151, t152⟩ : S23)⟩ : S66) [.int .i64 t150, .int .i64 t151, .int .i64 t152] from (k66_mkM _ _ _ (⟨t150, (⟨t151, t152⟩ : S23)⟩ : S66) )) (Reps.none _ _)))
           intro v157 w38 ho39 hb hg_ hnew_
           clear hg_ hnew_
           (first | rw [← Ny156.out] at ho39 | (simp only [Int.reduceToNat] at ho39; rw [← Ny156.out] at ho39))
           have n0_ := Aside0.mk (Kd.R_elder' (kr_ (HO_149000.out)) (Kd.R_base ho39) hb)
           have n1_ := Aside0.mk (Kd.R_below (kr_ (HO_149001.out)) hb)
           have n2_ := Aside0.mk (Kd.R_below (kr_ (HO164.out)) hb)
           have n3_ := Aside0.mk (Kd.R_lower (Kd.R_newB (Kd.R_new' ho39 (Kd.R_lt (kr_ (HO_149000.out)))) (g := gb155) (o := .cells #[.int .i64 t150, .int .i64 t151, .int .i64 t152] 66 (0, 0)) (bk_ BK155.out)) (below_size (hb_ HB.out)))
           have n4_ := Aside0.mk (bkb_ BK143.out hb)
           have n5_ := Aside0.mk (bkb_ BK144.out hb)
           have n6_ := Aside0.mk (bkb_ BK148.out hb)
           have n7_ := Aside0.mk (bkb_ BK155.out hb)
           have n8_ := Aside0.mk (below_step (hb_ HB.out) hb)
           clear HO_149000
           clear HO_149001
           clear HO164
           clear BK143
           clear BK144
           clear BK148
           clear BK155
           clear HB
           have HO_149000 := n0_
           have HO_149001 := n1_
           have HO164 := n2_
           have HO158 := n3_
           have BK143 := n4_
           have BK144 := n5_
           have BK148 := n6_
           have BK155 := n7_
           have HB := n8_
           clear n0_ n1_ n2_ n3_ n4_ n5_ n6_ n7_ n8_
           clear hb ho39
           obtain ⟨Ao41, co41, eo41⟩ := Kd.R_slice HO158.out
           (first | subst eo41 | (injection eo41 with f1_ f2_ f3_; have f4_ := f1_.symm; have f5_ := f3_.symm; clear f1_ f2_ f3_; subst f4_; subst f5_))
           refine hK.out _ _ ⟨(blk_cell BK148.out 0).trans rfl, (blk_cell BK148.out 1).trans rfl, (blk_cell BK155.out 0).trans rfl, (blk_cell BK155.out 1).trans rfl, (blk_cell BK155.out 2).trans rfl⟩ (fun hHeld => ?_)
           clear hK K
           refine norm_ (a' := ?_) ?_ ?_
           rotate_left
           ·show Act.put _ (some 39) _ = _
            simp only [Act.put, List.setIfInBounds_toArray, List.set_cons_zero, List.set_cons_succ, i64_w, i32_w]
            rfl
           refine one_ (i := 4) (N := some 40) #[true, true, true, true, true, true, true, true, true, false, false, false, false, false] rfl rfl (one_of HT_.out (by kernel_rfl)) (by decide) (fun K hK => ?_)
           refine Kd.R_append_rows_step k66 (w0 := w) w.heap.size (by rfl) (.tmp 37) (.tmp 39) 60 66 (.agg #[(.int .i64 0), (.int .i64 0), (.int .i64 0)]) 24 rfl Try.underlying60 info66 rfl (by decide) (by omega) (.slice (some ad149) x149000_1.length co27) x149000_1 y156 _ _ _ (fun k_ => some k_ ≠ (.slice Ao41 y156.length co41 : Value).ownBlock ∧ k_ ≠ gb155) (fun _ => False) rfl rfl ?aO ?aR (fun _ _ h => h) (fun _ h => h.elim) ?aF ?aB ?aS ?aL ?_
           (case aR => exact kc_ (Kd.R_reads' HO158.out).2.2)
           (case aB => exact (hb_ HB.out))
           (case aF => exact (fun k_ hk => ⟨Kd.fresh' (Kd.R_lt (kr_ (HO158.out))) k_ hk, Kd.freshB (g := gb155) (o := .cells #[.int .i64 t150, .int .i64 t151, .int .i64 t152] 66 (0, 0)) (bk_ BK155.out) k_ hk⟩))
           (case aO => exact (by (with_reducible repeat (first | apply Kd.R_alloc | apply Kd.R_drewN | apply Kd.R_drew)); exact Kd.R_mono HO_149000.out (fun _ hk => ⟨hk.2, hk.1⟩)))
           (case aS => exact (below_size (hb_ HB.out)))
           (case aL => have := LMc21.out; omega)
           intro v160 w40 ho hb hg hat
           rw [← Ny159.out] at ho
           have n0_ := Aside0.mk (Kd.R_over' (kr_ (HO_149001.out)) (Kd.R_typed (kr_ (HO_149000.out))) (by decide) hg)
           have n1_ := Aside0.mk (blk_grown (g := gb143) (o := .cells #[.int .i64 a1_0, .int .i64 a1_1] 23 (0, 0)) (bk_ BK143.out) hg (Kd.R_ne HO_149000.out BK143.out (by decide)))
           have n2_ := Aside0.mk (blk_grown (g := gb144) (o := .cells #[.slice none 0 0, .slice none 0 0] 63 (0, 0)) (bk_ BK144.out) hg (Kd.R_ne HO_149000.out BK144.out (by decide)))
           have n3_ := Aside0.mk (blk_grown (g := gb148) (o := .cells #[.slice (some ad149) x149000_1.length co27, .slice Ao26 x149001_1.length co26] 63 (0, 0)) (bk_ BK148.out) hg (Kd.R_ne HO_149000.out BK148.out (by decide)))
           have n4_ := Aside0.mk (blk_grown (g := gb155) (o := .cells #[.int .i64 t150, .int .i64 t151, .int .i64 t152] 66 (0, 0)) (bk_ BK155.out) hg (Kd.R_away HO_149000.out (fun _ hk => hk.1)))
           have n5_ := Aside0.mk (Kd.R_over' (kr_ (HO164.out)) (Kd.R_typed (kr_ (HO_149000.out))) (by decide) hg)
           have n6_ := Aside0.mk (Kd.R_after (ok := (fun k_ => k_ ≠ gb155)) (by (with_reducible repeat (first | apply Kd.R_alloc | apply Kd.R_drewN | apply Kd.R_drew)); exact Kd.R_mono HO158.out (fun _ hk => ⟨hk.2, hk.1.2⟩)) hg hat)
           have n7_ := Aside0.mk (hb)
           have n8_ := Aside0.mk (ho)
           clear HO_149001
           clear BK143
           clear BK144
           clear BK148
           clear BK155
           clear HO164
           clear HO158
           clear HB
           clear HO_149000
           have HO_149001 := n0_
           have BK143 := n1_
           have BK144 := n2_
           have BK148 := n3_
           have BK155 := n4_
           have HO164 := n5_
           have HO158 := n6_
           have HB := n7_
           have HO161 := n8_
           clear n0_ n1_ n2_ n3_ n4_ n5_ n6_ n7_ n8_
           clear ho hb hg hat
           refine hK.out _ _ ⟨(blk_cell BK148.out 0).trans rfl, (blk_cell BK148.out 1).trans rfl, (blk_cell BK155.out 0).trans rfl, (blk_cell BK155.out 1).trans rfl, (blk_cell BK155.out 2).trans rfl⟩ (fun hHeld => ?_)
           clear hK K
           refine norm_ (a' := ?_) ?_ ?_
           rotate_left
           ·show Act.put _ (some 40) _ = _
            simp only [Act.put, List.setIfInBounds_toArray, List.set_cons_zero, List.set_cons_succ, i64_w, i32_w]
            rfl
           refine pure_ (i := 10) (N := some 46) (v := ?_) (a' := ?_) #[true, true, true, true, true, true, true, true, true, false, true, false, false, false] rfl rfl (any_of HT_.out (by kernel_rfl)) (fun _ _ _ h => h) (Or.inl ⟨by rfl, ?_⟩) ?_ ?_
           rotate_left
           ·intro w'
            go_simp
            with_reducible rfl
           rotate_left
           ·simp only [Act.put, List.setIfInBounds_toArray, List.set_cons_zero, List.set_cons_succ, i64_w, i32_w]
            rfl
           exact norm_ (by simp only [putAll, Act.put, List.setIfInBounds_toArray, List.set_cons_zero, List.set_cons_succ]) (hCont (.slice Ao41 y156.length co41, v160, v163) _ ⟨hHeld, (by (with_reducible repeat (first | apply Kd.R_alloc | apply Kd.R_drewN | apply Kd.R_drew)); exact Kd.R_mono HO158.out (fun _ hk => ⟨hk.2, hk.1⟩)), (kr_ (HO161.out)), (by (with_reducible repeat (first | apply Kd.R_alloc | apply Kd.R_drewN | apply Kd.R_drew)); exact Kd.R_mono HO164.out (fun _ hk => hk.2)), (by (with_reducible repeat (first | apply Kd.R_alloc | apply Kd.R_drewN | apply Kd.R_drew)); exact Kd.R_mono HO_149001.out (fun _ hk => hk.2)), (bk_ BK143.out), (bk_ BK144.out), (bk_ BK148.out), (bk_ BK155.out), (hb_ HB.out)⟩)
         rintro ⟨v157, v160, v163⟩ w42 ⟨hS_, h0_, h1_, h2_, h3_, h4_, h5_, h6_, h7_, h8_⟩
         have n0_ : Aside0 (Kd.R k66 66 w42 w.heap.size (fun k_ => some k_ ≠ (v160 : Value).ownBlock ∧ k_ ≠ gb155) v157 y156) := ⟨h0_⟩
         have n1_ : Aside0 (Kd.R k66 66 w42 w.heap.size (fun k_ => some k_ ≠ (v157 : Value).ownBlock ∧ k_ ≠ gb155) v160 y159) := ⟨h1_⟩
         have n2_ : Aside0 (Kd.R (Kd.int .i64) 3 w42 w.heap.size (fun k_ => some k_ ≠ (.slice Ao26 x149001_1.length co26 : Value).ownBlock) v163 y162) := ⟨h2_⟩
         have n3_ : Aside0 (Kd.R (Kd.int .i64) 3 w42 w.heap.size (fun k_ => some k_ ≠ (v163 : Value).ownBlock) (.slice Ao26 x149001_1.length co26) x149001_1) := ⟨h3_⟩
         have n4_ : Aside0 (w42.heap[gb143]? = some (.cells #[.int .i64 a1_0, .int .i64 a1_1] 23 (0, 0))) := ⟨h4_⟩
         have n5_ : Aside0 (w42.heap[gb144]? = some (.cells #[.slice none 0 0, .slice none 0 0] 63 (0, 0))) := ⟨h5_⟩
         have n6_ : Aside0 (w42.heap[gb148]? = some (.cells #[.slice (some ad149) x149000_1.length co27, .slice Ao26 x149001_1.length co26] 63 (0, 0))) := ⟨h6_⟩
         have n7_ : Aside0 (w42.heap[gb155]? = some (.cells #[.int .i64 t150, .int .i64 t151, .int .i64 t152] 66 (0, 0))) := ⟨h7_⟩
         have n8_ : Aside0 (Below w.heap.size w w42) := ⟨h8_⟩
         clear HO_149000
         clear HO_149001
         clear BK143
         clear BK144
         clear BK148
         clear BK155
         clear HB
         clear h0_ h1_ h2_ h3_ h4_ h5_ h6_ h7_ h8_
         have HO158 := n0_
         have HO161 := n1_
         have HO164 := n2_
         have HO_149001 := n3_
         have BK143 := n4_
         have BK144 := n5_
         have BK148 := n6_
         have BK155 := n7_
         have HB := n8_
         clear n0_ n1_ n2_ n3_ n4_ n5_ n6_ n7_ n8_
         have hHeld : w42.cell? ⟨gb148, 0, none⟩ = some (.slice (some ad149) x149000_1.length co27) ∧ w42.cell? ⟨gb148, 1, none⟩ = some (.slice Ao26 x149001_1.length co26) ∧ w42.cell? ⟨gb155, 0, none⟩ = some (.int .i64 t150) ∧ w42.cell? ⟨gb155, 1, none⟩ = some (.int .i64 t151) ∧ w42.cell? ⟨gb155, 2, none⟩ = some (.int .i64 t152) := hS_
         obtain ⟨Ao44, co44, eo44⟩ := Kd.R_slice HO164.out
         (first | subst eo44 | (injection eo44 with f1_ f2_ f3_; have f4_ := f1_.symm; have f5_ := f3_.symm; clear f1_ f2_ f3_; subst f4_; subst f5_))
         refine norm_ (a' := ?_) ?_ ?_
         rotate_left
         ·simp only [putAll, Act.put, List.setIfInBounds_toArray, List.set_cons_zero, List.set_cons_succ]
          rfl
         refine one_ (i := 9) (N := some 45) #[true, true, true, true, true, true, true, true, true, true, true, false, false, false] rfl rfl (one_of HT_.out (by kernel_rfl)) (by decide) (fun K hK => ?_)
         refine Kd.R_append_rows_step (Kd.int .i64) (w0 := w) w.heap.size (by rfl) (.tmp 42) (.tmp 44) 61 3 (.int .i64 0) 8 rfl Try.underlying61 info3 rfl (by decide) (by omega) (.slice Ao26 x149001_1.length co26) x149001_1 y162 _ _ _ (fun k_ => some k_ ≠ (.slice Ao44 y162.length co44 : Value).ownBlock) (fun _ => False) rfl rfl ?aO ?aR (fun _ _ h => h) (fun _ h => h.elim) ?aF ?aB ?aS ?aL ?_
         (case aR => exact kc_ (Kd.R_reads' HO164.out).2.2)
         (case aB => exact (hb_ HB.out))
         (case aF => exact (fun k_ hk => Kd.fresh' (Kd.R_lt (kr_ (HO164.out))) k_ hk))
         (case aO => exact (kr_ (HO_149001.out)))
         (case aS => exact (below_size (hb_ HB.out)))
         (case aL => have := LMc22.out; omega)
         intro v166 w43 ho hb hg hat
         rw [← Ny165.out] at ho
         have n0_ := Aside0.mk (blk_grown (g := gb143) (o := .cells #[.int .i64 a1_0, .int .i64 a1_1] 23 (0, 0)) (bk_ BK143.out) hg (Kd.R_ne HO_149001.out BK143.out (by decide)))
         have n1_ := Aside0.mk (blk_grown (g := gb144) (o := .cells #[.slice none 0 0, .slice none 0 0] 63 (0, 0)) (bk_ BK144.out) hg (Kd.R_ne HO_149001.out BK144.out (by decide)))
         have n2_ := Aside0.mk (blk_grown (g := gb148) (o := .cells #[.slice (some ad149) x149000_1.length co27, .slice Ao26 x149001_1.length co26] 63 (0, 0)) (bk_ BK148.out) hg (Kd.R_ne HO_149001.out BK148.out (by decide)))
         have n3_ := Aside0.mk (blk_grown (g := gb155) (o := .cells #[.int .i64 t150, .int .i64 t151, .int .i64 t152] 66 (0, 0)) (bk_ BK155.out) hg (Kd.R_ne HO_149001.out BK155.out (by decide)))
         have n4_ := Aside0.mk (Kd.R_over' (kr_ (HO158.out)) (Kd.R_typed (kr_ (HO_149001.out))) (by decide) hg)
         have n5_ := Aside0.mk (Kd.R_over' (kr_ (HO161.out)) (Kd.R_typed (kr_ (HO_149001.out))) (by decide) hg)
         have n6_ := Aside0.mk (Kd.R_after (ok := (fun _ => True)) (by (with_reducible repeat (first | apply Kd.R_alloc | apply Kd.R_drewN | apply Kd.R_drew)); exact Kd.R_mono HO164.out (fun _ hk => ⟨trivial, hk⟩)) hg hat)
         have n7_ := Aside0.mk (hb)
         have n8_ := Aside0.mk (ho)
         clear BK143
         clear BK144
         clear BK148
         clear BK155
         clear HO158
         clear HO161
         clear HO164
         clear HB
         clear HO_149001
         have BK143 := n0_
         have BK144 := n1_
         have BK148 := n2_
         have BK155 := n3_
         have HO158 := n4_
         have HO161 := n5_
         have HO164 := n6_
         have HB := n7_
         have HO167 := n8_
         clear n0_ n1_ n2_ n3_ n4_ n5_ n6_ n7_ n8_
         clear ho hb hg hat
         obtain ⟨Ao45, co45, eo45⟩ := Kd.R_slice HO161.out
         (first | subst eo45 | (injection eo45 with f1_ f2_ f3_; have f4_ := f1_.symm; have f5_ := f3_.symm; clear f1_ f2_ f3_; subst f4_; subst f5_))
         obtain ⟨Ao47, co47, eo47⟩ := Kd.R_slice HO167.out
         (first | subst eo47 | (injection eo47 with f1_ f2_ f3_; have f4_ := f1_.symm; have f5_ := f3_.symm; clear f1_ f2_ f3_; subst f4_; subst f5_))
         refine hK.out _ _ ⟨(blk_cell BK148.out 0).trans rfl, (blk_cell BK148.out 1).trans rfl, (blk_cell BK155.out 0).trans rfl, (blk_cell BK155.out 1).trans rfl, (blk_cell BK155.out 2).trans rfl⟩ (fun hHeld => ?_)
         clear hK K
         refine norm_ (a' := ?_) ?_ ?_
         rotate_left
         ·show Act.put _ (some 45) _ = _
          simp only [Act.put, List.setIfInBounds_toArray, List.set_cons_zero, List.set_cons_succ, i64_w, i32_w]
          rfl
         refine last_ (i := 11) (N := none) #[true, true, true, true, true, true, true, true, true, true, true, true, false, false] rfl rfl (one_of HT_.out (by kernel_rfl)) (by decide) (fun K hK => ?_)
         have hs46 : w43.cell? ⟨gb148, 0, none⟩ = some (.slice (some ad149) x149000_1.length co27) := (blk_cell BK148.out 0).trans rfl
         have hfs46 := blk_frozen BK148.out 0
         have hns46_0 := NB143_148.out
         have hns46_1 := NB144_148.out
         have hns46_3 := NB155_148.out
         have hms46_0 := NB148_143.out
         have hms46_1 := NB148_144.out
         have hms46_3 := NB148_155.out
         refine skip_ (w1 := ?_) (by rfl) rfl ?_ ?_
         rotate_left
         ·go_simp
          rfl
         refine hK.out _ _ ?_
         clear hK K
         refine pure_ (i := 12) (N := some 47) (v := ?_) (a' := ?_) #[true, true, true, true, true, true, true, true, true, true, true, true, true, false] rfl rfl (any_of HT_.out (by kernel_rfl)) (fun _ _ _ h => h) (Or.inl ⟨by rfl, ?_⟩) ?_ ?_
         rotate_left
         ·intro w'
          go_simp
          with_reducible rfl
         rotate_left
         ·simp only [Act.put, List.setIfInBounds_toArray, List.set_cons_zero, List.set_cons_succ, i64_w, i32_w]
          rfl
         refine last_ (i := 13) (N := none) #[true, true, true, true, true, true, true, true, true, true, true, true, true, true] rfl rfl (one_of HT_.out (by kernel_rfl)) (by decide) (fun K hK => ?_)
         have hs48 : w43.cell? ⟨gb148, 1, none⟩ = some (.slice Ao26 x149001_1.length co26) := (blk_cell BK148.out 1).trans rfl
         have hfs48 := blk_frozen BK148.out 1
         have hns48_0 := NB143_148.out
         have hns48_1 := NB144_148.out
         have hns48_3 := NB155_148.out
         have hms48_0 := NB148_143.out
         have hms48_1 := NB148_144.out
         have hms48_3 := NB148_155.out
         refine skip_ (w1 := ?_) (by rfl) rfl ?_ ?_
         rotate_left
         ·go_simp
          rfl
         refine hK.out _ _ ?_
         clear hK K
         refine done_ (done_of HT_.out (by kernel_rfl)) ?_
         try go_wp2
         go_roundg k1
         case measure => have := HK1.out; omega
         case rel => exact ⟨(y159), (y165), (.slice Ao45 y159.length co45), (.slice Ao47 y165.length co47), H', ⟨by have := HK1.out; omega⟩, ⟨by (with_reducible repeat (first | apply Kd.R_alloc | apply Kd.R_drewN | apply Kd.R_drew)); exact Kd.R_mono (Kd.R_far (p := ⟨gb148, 1, none⟩) (Kd.R_far (p := ⟨gb148, 0, none⟩) (Kd.R_types HO161.out BK148.out (by decide)) (fun _ hk => hk.2) (.slice Ao45 y159.length co45)) (fun _ hk => hk.2) (.slice Ao47 y165.length co47)) (fun _ hk => trivial)⟩, ⟨by (with_reducible repeat (first | apply Kd.R_alloc | apply Kd.R_drewN | apply Kd.R_drew)); exact Kd.R_mono (Kd.R_far (p := ⟨gb148, 1, none⟩) (Kd.R_far (p := ⟨gb148, 0, none⟩) (Kd.R_types HO167.out BK148.out (by decide)) (fun _ hk => hk.2) (.slice Ao45 y159.length co45)) (fun _ hk => hk.2) (.slice Ao47 y165.length co47)) (fun _ hk => trivial)⟩, ⟨by (with_reducible repeat (first | refine blk_drewN ?_ _ | refine blk_drew ?_ | refine blk_alloc ?_ _)); refine blk_far ?_ NB143_148.out _; (with_reducible repeat (first | refine blk_drewN ?_ _ | refine blk_drew ?_ | refine blk_alloc ?_ _)); refine blk_far ?_ NB143_148.out _; (with_reducible repeat (first | refine blk_drewN ?_ _ | refine blk_drew ?_ | refine blk_alloc ?_ _)); exact BK143.out⟩, ⟨by (with_reducible repeat (first | refine blk_drewN ?_ _ | refine blk_drew ?_ | refine blk_alloc ?_ _)); refine blk_far ?_ NB144_148.out _; (with_reducible repeat (first | refine blk_drewN ?_ _ | refine blk_drew ?_ | refine blk_alloc ?_ _)); refine blk_far ?_ NB144_148.out _; (with_reducible repeat (first | refine blk_drewN ?_ _ | refine blk_drew ?_ | refine blk_alloc ?_ _)); exact BK144.out⟩, ⟨by (with_reducible repeat (first | refine blk_drewN ?_ _ | refine blk_drew ?_ | refine blk_alloc ?_ _)); refine blk_put (cs := #[.slice Ao45 y159.length co45, .slice Ao26 x149001_1.length co26]) ?_ 1 _ rfl; (with_reducible repeat (first | refine blk_drewN ?_ _ | refine blk_drew ?_ | refine blk_alloc ?_ _)); refine blk_put (cs := #[.slice (some ad149) x149000_1.length co27, .slice Ao26 x149001_1.length co26]) ?_ 0 _ rfl; (with_reducible repeat (first | refine blk_drewN ?_ _ | refine blk_drew ?_ | refine blk_alloc ?_ _)); exact BK148.out⟩, ⟨by repeat (first | (with_reducible first | exact HB.out | apply below_alloc | apply pw_below_drewN | apply below_drew1 | refine below_set ?_ GE143.out | refine below_set ?_ GE144.out | refine below_set ?_ GE148.out | refine below_set ?_ GE155.out) | exact HB.out)⟩⟩
        ·rw [if_neg c22] at H
         exact absurd H (by simp)
       ·rw [if_neg c21] at H
        exact absurd H (by simp)
      ·replace c20 := Bool.eq_false_iff.mpr c20
       subst c20
       have H1 : (some (x149000_1, x149001_1)) = some (r1, r2) := by rw [if_neg (show ¬ (false = true) by decide)] at H; exact H
       clear H
       have H := H1
       clear H1
       simp only [Option.some.injEq, Prod.mk.injEq] at H
       obtain ⟨rfl, rfl⟩ := H
       have hnb49 := NB148_143.out
       have hnc49 := NB143_148.out
       have hnb50 := NB148_144.out
       have hnc50 := NB144_148.out
       have hcz51_0 : wr.cell? ⟨gb148, 0, none⟩ = some (u149000) := (blk_cell BK148.out 0).trans rfl
       have hcz51_1 : wr.cell? ⟨gb148, 1, none⟩ = some (u149001) := (blk_cell BK148.out 1).trans rfl
       have hfz51_0 := blk_frozen BK148.out 0
       have hfz51_1 := blk_frozen BK148.out 1
       obtain ⟨Ao52, co52, eo52⟩ := Kd.R_slice HO_149001.out
       subst eo52
       obtain ⟨Ao53, co53, eo53⟩ := Kd.R_slice HO_149000.out
       subst eo53
       have p149 : 0 ≤ ((ji16) : Int) := of_decide_eq_true (by first | (with_reducible assumption) | assumption)
       have q149 : (ji16) < (x149000_1.length : Int) := of_decide_eq_true (by first | (with_reducible assumption) | assumption)
       obtain ⟨ad149, e149, hx149_0, hx149_1, hx149_2⟩ := at_T66 (Kd.R_reads' HO_149000.out).2.2 (ji16) p149 q149
       cases e149
       replace p149 := eq_true p149
       replace q149 := eq_true q149
       go_wp2_with (first | ((with_reducible refine gate_callee (f := 42) rfl ?_); refine goesL_ (some 30) rfl rfl Try.func42 (by kernel_rfl) rfl #[.slice A0 l0.length c0, .agg #[.int .i64 ((rd_T66 x149000_1 (ji16)).f0), .int .i64 ((rd_T66 x149000_1 (ji16)).f1.f0), .int .i64 ((rd_T66 x149000_1 (ji16)).f1.f1)]] rfl (by (try simp only [List.map_toArray, List.map_cons, List.map_nil]); first | done | (simp only [hji16]; rfl) | rfl | (simp only [List.length_drop, List.length_take]; rfl)) ?_; (with_reducible refine (tags_step.calls _ _ l0 ((rd_T66 x149000_1 (ji16)).f0) ((rd_T66 x149000_1 (ji16)).f1.f0) ((rd_T66 x149000_1 (ji16)).f1.f1) t150 t151 t152 t153 false _ ?side1 ?side2 A19.out).mono ?_); (case side1 => exact kc_ (Kd.C_below HR0.out HB.out)); (case side2 => exact HC0.out); rintro e w54 ⟨rfl, hb⟩; refine ⟨_, rfl, ?_⟩; have n0_ := Aside0.mk (Kd.R_below (kr_ (HO_149000.out)) hb); have n1_ := Aside0.mk (Kd.R_below (kr_ (HO_149001.out)) hb); have n2_ := Aside0.mk (bkb_ BK143.out hb); have n3_ := Aside0.mk (bkb_ BK144.out hb); have n4_ := Aside0.mk (bkb_ BK148.out hb); have n5_ := Aside0.mk (below_step (hb_ HB.out) hb); clear HO_149000; clear HO_149001; clear BK143; clear BK144; clear BK148; clear HB; have HO_149000 := n0_; have HO_149001 := n1_; have BK143 := n2_; have BK144 := n3_; have BK148 := n4_; have HB := n5_; clear n0_ n1_ n2_ n3_ n4_ n5_; (try clear hb); (try clear hb2); (try clear hk); (try clear hi)) | ((with_reducible refine gate_dst (N := 8) rfl ?_); refine box_event ?hg (N := 8) ?hd (cs := #[.int .i64 0, .int .i64 0, .int .i64 0]) (t := 66) ?hr ?_; (case hd => rfl); (case hg => rfl); (case hr => first | (go_simp; done) | (go_simp; rfl)); intro gb155 hg w55 hbox hb; have n0_ := Aside0.mk (Kd.R_below (Kd.R_elderB (kr_ (HO_149000.out)) gb155 (Nat.le_of_eq hg.symm)) hb); have n1_ := Aside0.mk (Kd.R_below (kr_ (HO_149001.out)) hb); have n2_ := Aside0.mk (bkb_ BK143.out hb); have n3_ := Aside0.mk (bkb_ BK144.out hb); have n4_ := Aside0.mk (bkb_ BK148.out hb); have n5_ := Aside0.mk (below_step (hb_ HB.out) hb); have n6_ := Aside0.mk (hbox); have n7_ := Aside0.mk ((by rw [hg]; exact (below_size (hb_ HB.out)) : w.heap.size ≤ gb155)); have n8_ := Aside0.mk ((by rw [hg]; exact (below_size (hb_ HB.out)) : w.heap.size ≤ gb155)); have n9_ := Aside0.mk ((by rw [hg]; exact Nat.ne_of_lt (bkl_ BK143.out) : gb143 ≠ gb155)); have n10_ := Aside0.mk ((by rw [hg]; exact Nat.ne_of_gt (bkl_ BK143.out) : gb155 ≠ gb143)); have n11_ := Aside0.mk ((by rw [hg]; exact Nat.ne_of_lt (bkl_ BK144.out) : gb144 ≠ gb155)); have n12_ := Aside0.mk ((by rw [hg]; exact Nat.ne_of_gt (bkl_ BK144.out) : gb155 ≠ gb144)); have n13_ := Aside0.mk ((by rw [hg]; exact Nat.ne_of_lt (bkl_ BK148.out) : gb148 ≠ gb155)); have n14_ := Aside0.mk ((by rw [hg]; exact Nat.ne_of_gt (bkl_ BK148.out) : gb155 ≠ gb148)); clear HO_149000; clear HO_149001; clear BK143; clear BK144; clear BK148; clear HB; have HO_149000 := n0_; have HO_149001 := n1_; have BK143 := n2_; have BK144 := n3_; have BK148 := n4_; have HB := n5_; have BK155 := n6_; have GW155 := n7_; have GE155 := n8_; have NB143_155 := n9_; have NB155_143 := n10_; have NB144_155 := n11_; have NB155_144 := n12_; have NB148_155 := n13_; have NB155_148 := n14_; clear n0_ n1_ n2_ n3_ n4_ n5_ n6_ n7_ n8_ n9_ n10_ n11_ n12_ n13_ n14_; clear hb hbox hg; have hnb56 := NB155_143.out; have hnc56 := NB143_155.out; have hnb57 := NB155_144.out; have hnc57 := NB144_155.out; have hnb58 := NB155_148.out; have hnc58 := NB148_155.out; have hcz59_0 : w55.cell? ⟨gb155, 0, none⟩ = some (.int .i64 0) := (blk_cell BK155.out 0).trans rfl; have hcz59_1 : w55.cell? ⟨gb155, 1, none⟩ = some (.int .i64 0) := (blk_cell BK155.out 1).trans rfl; have hcz59_2 : w55.cell? ⟨gb155, 2, none⟩ = some (.int .i64 0) := (blk_cell BK155.out 2).trans rfl; have hfz59_0 := blk_frozen BK155.out 0; have hfz59_1 := blk_frozen BK155.out 1; have hfz59_2 := blk_frozen BK155.out 2; have hcz60_0 : w55.cell? ⟨gb148, 0, none⟩ = some (.slice (some ad149) x149000_1.length co53) := (blk_cell BK148.out 0).trans rfl; have hcz60_1 : w55.cell? ⟨gb148, 1, none⟩ = some (.slice Ao52 x149001_1.length co52) := (blk_cell BK148.out 1).trans rfl; have hfz60_0 := blk_frozen BK148.out 0; have hfz60_1 := blk_frozen BK148.out 1; have hnb61 := NB144_143.out; have hnc61 := NB143_144.out; have hcz62_0 : w55.cell? ⟨gb144, 0, none⟩ = some (.slice none 0 0) := (blk_cell BK144.out 0).trans rfl; have hcz62_1 : w55.cell? ⟨gb144, 1, none⟩ = some (.slice none 0 0) := (blk_cell BK144.out 1).trans rfl; have hfz62_0 := blk_frozen BK144.out 0; have hfz62_1 := blk_frozen BK144.out 1))
       refine bodyPost_ret (results_cell_row rfl _ _ gb144 63 #[.slice (some ad149) x149000_1.length co53, .slice Ao52 x149001_1.length co52] (0, 0) _ rfl (by (with_reducible repeat (first | refine blk_drewN ?_ _ | refine blk_drew ?_ | refine blk_alloc ?_ _)); refine blk_put (cs := #[.slice (some ad149) x149000_1.length co53, .slice none 0 0]) ?_ 1 _ rfl; (with_reducible repeat (first | refine blk_drewN ?_ _ | refine blk_drew ?_ | refine blk_alloc ?_ _)); refine blk_put (cs := #[.slice none 0 0, .slice none 0 0]) ?_ 0 _ rfl; (with_reducible repeat (first | refine blk_drewN ?_ _ | refine blk_drew ?_ | refine blk_alloc ?_ _)); refine blk_far ?_ NB144_155.out _; (with_reducible repeat (first | refine blk_drewN ?_ _ | refine blk_drew ?_ | refine blk_alloc ?_ _)); refine blk_far ?_ NB144_155.out _; (with_reducible repeat (first | refine blk_drewN ?_ _ | refine blk_drew ?_ | refine blk_alloc ?_ _)); refine blk_far ?_ NB144_155.out _; (with_reducible repeat (first | refine blk_drewN ?_ _ | refine blk_drew ?_ | refine blk_alloc ?_ _)); exact BK144.out) Try.underlying63 rfl (by kernel_rfl)) rfl ?_
       exact ⟨_, _, by first | rfl | (simp [errW_none, errW_some] <;> rfl) | (simp only [← hji16]; first | rfl | (simp [errW_none, errW_some] <;> rfl)) | (simp [*, errW_none, errW_some] <;> rfl), by (with_reducible repeat (first | apply Kd.R_alloc | apply Kd.R_drewN | apply Kd.R_drew)); exact Kd.R_mono (Kd.R_far (p := ⟨gb144, 1, none⟩) (Kd.R_far (p := ⟨gb144, 0, none⟩) (Kd.R_far (p := ⟨gb155, 2, none⟩) (Kd.R_far (p := ⟨gb155, 1, none⟩) (Kd.R_far (p := ⟨gb155, 0, none⟩) (Kd.R_types (Kd.R_mono HO_149000.out (fun k_ hk => (⟨hk, hk.2⟩ : _ ∧ k_ ≠ gb155))) BK144.out (by decide)) (fun _ hk => hk.1.2) (.int .i64 t150)) (fun _ hk => hk.1.2) (.int .i64 t151)) (fun _ hk => hk.1.2) (.int .i64 t152)) (fun _ hk => hk.2) (.slice (some ad149) x149000_1.length co53)) (fun _ hk => hk.2) (.slice Ao52 x149001_1.length co52)) (fun _ hk => trivial), by (with_reducible repeat (first | apply Kd.R_alloc | apply Kd.R_drewN | apply Kd.R_drew)); exact Kd.R_mono (Kd.R_far (p := ⟨gb144, 1, none⟩) (Kd.R_far (p := ⟨gb144, 0, none⟩) (Kd.R_far (p := ⟨gb155, 2, none⟩) (Kd.R_far (p := ⟨gb155, 1, none⟩) (Kd.R_far (p := ⟨gb155, 0, none⟩) (Kd.R_types (Kd.R_types HO_149001.out BK155.out (by decide)) BK144.out (by decide)) (fun _ hk => hk.1.2) (.int .i64 t150)) (fun _ hk => hk.1.2) (.int .i64 t151)) (fun _ hk => hk.1.2) (.int .i64 t152)) (fun _ hk => hk.2) (.slice (some ad149) x149000_1.length co53)) (fun _ hk => hk.2) (.slice Ao52 x149001_1.length co52)) (fun _ hk => trivial), by repeat (first | (with_reducible first | exact HB.out | apply below_alloc | apply pw_below_drewN | apply below_drew1 | refine below_set ?_ GE143.out | refine below_set ?_ GE144.out | refine below_set ?_ GE148.out | refine below_set ?_ GE155.out) | exact HB.out)⟩
     ·rw [if_neg c18] at H
      exact absurd H (by simp)
    ·rw [if_neg c17] at H
     exact absurd H (by simp)
   ·rw [if_neg c15] at H
    have c15b0 : decide ((x149001_1.length : Int) < a2) = false := decide_eq_false c15
    clear c15
    simp only [Option.some.injEq, Prod.mk.injEq] at H
    obtain ⟨rfl, rfl⟩ := H
    have hnb63 := NB148_143.out
    have hnc63 := NB143_148.out
    have hnb64 := NB148_144.out
    have hnc64 := NB144_148.out
    have hcz65_0 : wr.cell? ⟨gb148, 0, none⟩ = some (u149000) := (blk_cell BK148.out 0).trans rfl
    have hcz65_1 : wr.cell? ⟨gb148, 1, none⟩ = some (u149001) := (blk_cell BK148.out 1).trans rfl
    have hfz65_0 := blk_frozen BK148.out 0
    have hfz65_1 := blk_frozen BK148.out 1
    obtain ⟨Ao66, co66, eo66⟩ := Kd.R_slice HO_149001.out
    subst eo66
    obtain ⟨Ao67, co67, eo67⟩ := Kd.R_slice HO_149000.out
    subst eo67
    have hnb68 := NB144_143.out
    have hnc68 := NB143_144.out
    have hcz69_0 : wr.cell? ⟨gb144, 0, none⟩ = some (.slice none 0 0) := (blk_cell BK144.out 0).trans rfl
    have hcz69_1 : wr.cell? ⟨gb144, 1, none⟩ = some (.slice none 0 0) := (blk_cell BK144.out 1).trans rfl
    have hfz69_0 := blk_frozen BK144.out 0
    have hfz69_1 := blk_frozen BK144.out 1
    go_wp2
    refine bodyPost_ret (results_cell_row rfl _ _ gb144 63 #[.slice Ao67 x149000_1.length co67, .slice Ao66 x149001_1.length co66] (0, 0) _ rfl (by (with_reducible repeat (first | refine blk_drewN ?_ _ | refine blk_drew ?_ | refine blk_alloc ?_ _)); refine blk_put (cs := #[.slice Ao67 x149000_1.length co67, .slice none 0 0]) ?_ 1 _ rfl; (with_reducible repeat (first | refine blk_drewN ?_ _ | refine blk_drew ?_ | refine blk_alloc ?_ _)); refine blk_put (cs := #[.slice none 0 0, .slice none 0 0]) ?_ 0 _ rfl; (with_reducible repeat (first | refine blk_drewN ?_ _ | refine blk_drew ?_ | refine blk_alloc ?_ _)); exact BK144.out) Try.underlying63 rfl (by kernel_rfl)) rfl ?_
    exact ⟨_, _, by first | rfl | (simp [errW_none, errW_some] <;> rfl) | (simp [*, errW_none, errW_some] <;> rfl), by (with_reducible repeat (first | apply Kd.R_alloc | apply Kd.R_drewN | apply Kd.R_drew)); exact Kd.R_mono (Kd.R_far (p := ⟨gb144, 1, none⟩) (Kd.R_far (p := ⟨gb144, 0, none⟩) (Kd.R_types HO_149000.out BK144.out (by decide)) (fun _ hk => hk.2) (.slice Ao67 x149000_1.length co67)) (fun _ hk => hk.2) (.slice Ao66 x149001_1.length co66)) (fun _ hk => trivial), by (with_reducible repeat (first | apply Kd.R_alloc | apply Kd.R_drewN | apply Kd.R_drew)); exact Kd.R_mono (Kd.R_far (p := ⟨gb144, 1, none⟩) (Kd.R_far (p := ⟨gb144, 0, none⟩) (Kd.R_types HO_149001.out BK144.out (by decide)) (fun _ hk => hk.2) (.slice Ao67 x149000_1.length co67)) (fun _ hk => hk.2) (.slice Ao66 x149001_1.length co66)) (fun _ hk => trivial), by repeat (first | (with_reducible first | exact HB.out | apply below_alloc | apply pw_below_drewN | apply below_drew1 | refine below_set ?_ GE143.out | refine below_set ?_ GE144.out | refine below_set ?_ GE148.out) | exact HB.out)⟩

end Go.Proofs.Ytjmbjnobbeflfaa.X
