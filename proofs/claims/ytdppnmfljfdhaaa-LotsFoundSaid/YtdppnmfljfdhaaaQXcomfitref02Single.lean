/- Written by a program of this session (wip/tools/xprint.py, which calls the kit's print): Go functions as Lean functions, and for each the proof that the machine's call does what it says; no conditions but those that each theorem names. -/
import Derived.Test.YtdppnmfljfdhaaaQX0
namespace Go.Proofs.Ytdppnmfljfdhaaa.X
open Go.RowKit Go.Proofs.YtdppnmfljfdhaaaW.PrintWords Go.Proofs.YtdppnmfljfdhaaaW.PrintLast Go.Proofs.YtdppnmfljfdhaaaW.PrintMore
attribute [local go_sem] max2_int min2_int max_two min_two max_three min_three max_four min_four   -- for this text's walks alone
set_option linter.unusedVariables false
set_option linter.unusedSimpArgs false

/-! ### comfitref02_Single: function 48 -/
def comfitref02_Single.l0 : Nat → Int → Int → Int → Int → List Int → List Int → Option (List Int × List Int)
 | 0, _, _, _, _, _, _ => none
 | k + 1, x0, x1, x6, x7, x637000, x637001 => if x7 < x6 then (if x637000.length < 17592186044416 then (if x637001.length < 17592186044416 then (comfitref02_Single.l0 k x0 x1 x6 (wrap64 (x7 + 1)) (x637000 ++ [(-1)]) (x637001 ++ [wrap64 (x0 + 1)])) else (none)) else (none)) else (if 0 ≤ (wrap64 (x0 - 1)) then (if (wrap64 (x0 - 1)) < (x637000.length : Int) then (if (wrap64 (x0 - 1)) < (x637001.length : Int) then (some ((x637000.set ((wrap64 (x0 - 1)) : Int).toNat x1), (x637001.set ((wrap64 (x0 - 1)) : Int).toNat (wrap64 (x1 + 1))))) else (none)) else (none)) else (none))
def comfitref02_Single.f (k : Nat) (a0 : Int) (a1 : Int) : Option (List Int × List Int) := comfitref02_Single.l0 k a0 a1 a0 0 ([] : List Int) ([] : List Int)
set_option maxHeartbeats 8000000 in
set_option maxRecDepth 100000 in
theorem comfitref02_Single.calls (k : Nat) (a0 : Int) (a1 : Int) (r1 : List Int) (r2 : List Int) (w : World) (h : comfitref02_Single.f k a0 a1 = some (r1, r2)) :
  Calls Try.prog 48 #[.int .i64 a0, .int .i64 a1] w fun e w' => ∃ v0_ v1_ : Value, e = .returned (.agg #[v0_, v1_]) ∧ Kd.R (Kd.int .i64) 3 w' w.heap.size (fun k_ => some k_ ≠ (v1_ : Value).ownBlock) v0_ r1 ∧ Kd.R (Kd.int .i64) 3 w' w.heap.size (fun k_ => some k_ ≠ (v0_ : Value).ownBlock) v1_ r2 ∧ Below w.heap.size w w' := by
 have hu24 := Try.underlying24
 have HB := Aside0.mk (Below.refl w.heap.size w)
 have H : (comfitref02_Single.l0 k a0 a1 a0 0 ([] : List Int) ([] : List Int)) = some (r1, r2) := h
 clear h
 have H' := Aside0.mk H
 clear H
 go_enter Try.func48, Try.ntmps48
 go_wp2_with (first | ((with_reducible refine gate_dst (N := 4) rfl ?_); refine box_event ?hg (N := 4) ?hd (cs := #[.slice none 0 0, .slice none 0 0]) (t := 24) ?hr ?_; (case hd => rfl); (case hg => rfl); (case hr => first | (go_simp; done) | (go_simp; rfl)); intro gb635 hg w3 hbox hb; have n0_ := Aside0.mk (below_step (hb_ HB.out) hb); have n1_ := Aside0.mk (hbox); have n2_ := Aside0.mk ((by rw [hg]; exact (below_size (hb_ HB.out)) : w.heap.size ≤ gb635)); have n3_ := Aside0.mk ((by rw [hg]; exact (below_size (hb_ HB.out)) : w.heap.size ≤ gb635)); clear HB; have HB := n0_; have BK635 := n1_; have GW635 := n2_; have GE635 := n3_; clear n0_ n1_ n2_ n3_; clear hb hbox hg) | ((with_reducible refine gate_dst (N := 5) rfl ?_); refine box_event ?hg (N := 5) ?hd (cs := #[.slice none 0 0, .slice none 0 0]) (t := 24) ?hr ?_; (case hd => rfl); (case hg => rfl); (case hr => first | (go_simp; done) | (go_simp; rfl)); intro gb636 hg w4 hbox hb; have n0_ := Aside0.mk (bkb_ BK635.out hb); have n1_ := Aside0.mk (below_step (hb_ HB.out) hb); have n2_ := Aside0.mk (hbox); have n3_ := Aside0.mk ((by rw [hg]; exact (below_size (hb_ HB.out)) : w.heap.size ≤ gb636)); have n4_ := Aside0.mk ((by rw [hg]; exact (below_size (hb_ HB.out)) : w.heap.size ≤ gb636)); have n5_ := Aside0.mk ((by rw [hg]; exact Nat.ne_of_lt (bkl_ BK635.out) : gb635 ≠ gb636)); have n6_ := Aside0.mk ((by rw [hg]; exact Nat.ne_of_gt (bkl_ BK635.out) : gb636 ≠ gb635)); clear BK635; clear HB; have BK635 := n0_; have HB := n1_; have BK636 := n2_; have GW636 := n3_; have GE636 := n4_; have NB635_636 := n5_; have NB636_635 := n6_; clear n0_ n1_ n2_ n3_ n4_ n5_ n6_; clear hb hbox hg))
 go_loopg [7] k (fun kq v7 w' => ∃ (x7_1 : Int) (x637000_1 : List Int) (x637001_1 : List Int) (u637000 : Value) (u637001 : Value), v7 = .int .i64 x7_1 ∧ Aside0 (comfitref02_Single.l0 kq a0 a1 a0 x7_1 x637000_1 x637001_1 = some (r1, r2)) ∧ Aside0 (kq ≤ k) ∧ Aside0 (Kd.R (Kd.int .i64) 3 w' w.heap.size (fun k_ => some k_ ≠ (u637001 : Value).ownBlock) u637000 x637000_1) ∧ Aside0 (Kd.R (Kd.int .i64) 3 w' w.heap.size (fun k_ => some k_ ≠ (u637000 : Value).ownBlock) u637001 x637001_1) ∧ Aside0 (w'.heap[gb635]? = some (.cells #[(.slice none 0 0), (.slice none 0 0)] 24 (0, 0))) ∧ Aside0 (w'.heap[gb636]? = some (.cells #[u637000, u637001] 24 (0, 0))) ∧ Aside0 (Below w.heap.size w w'))
 case atStart => exact ⟨(0), (([] : List Int)), (([] : List Int)), (.slice none 0 0), (.slice none 0 0), (by first | rfl | (simp; done) | (simp [*]; done)), H', ⟨Nat.le_refl _⟩, ⟨by first | exact Kd.R_nil _ _ _ _ _ | exact Kd.N_nil _ _ _ _ _ | exact Kd.V_nil _ _ _ _ _ | exact Kd.Q_nil _ _ _ _ _ | exact Kd.S_nil _ _ _ _ _⟩, ⟨by first | exact Kd.R_nil _ _ _ _ _ | exact Kd.N_nil _ _ _ _ _ | exact Kd.V_nil _ _ _ _ _ | exact Kd.Q_nil _ _ _ _ _ | exact Kd.S_nil _ _ _ _ _⟩, ⟨by (with_reducible repeat (first | refine blk_drewN ?_ _ | refine blk_drew ?_ | refine blk_alloc ?_ _)); exact BK635.out⟩, ⟨by (with_reducible repeat (first | refine blk_drewN ?_ _ | refine blk_drew ?_ | refine blk_alloc ?_ _)); exact BK636.out⟩, ⟨by repeat (first | (with_reducible first | exact HB.out | apply below_alloc | apply pw_below_drewN | apply below_drew1 | refine below_set ?_ GE635.out | refine below_set ?_ GE636.out) | exact HB.out)⟩⟩
 case round =>
  clear H'
  try clear p2
  try clear c4
  obtain ⟨x7_1, x637000_1, x637001_1, u637000, u637001, rfl, HA, HK1, HO_637000, HO_637001, BK635, BK636, HB⟩ := hrel
  cases gk with
  | zero => exact absurd HA.out (by simp [comfitref02_Single.l0])
  | succ k1 =>
   have H := HA.out
   clear HA
   simp only [comfitref02_Single.l0] at H
   by_cases c5 : x7_1 < a0
   ·rw [if_pos c5] at H
    have c5b0 : decide (x7_1 < a0) = true := decide_eq_true c5
    clear c5
    by_cases c6 : x637000_1.length < 17592186044416
    ·rw [if_pos c6] at H
     have LMc6 := Aside0.mk c6
     clear c6
     obtain ⟨y637, hy637⟩ : ∃ y_ : List Int, y_ = (x637000_1 ++ [(-1)]) := ⟨_, rfl⟩
     replace H : (if x637001_1.length < 17592186044416 then (comfitref02_Single.l0 k1 a0 a1 a0 (wrap64 (x7_1 + 1)) y637 (x637001_1 ++ [wrap64 (a0 + 1)])) else (none)) = some (r1, r2) := by first | (rw [hy637]; with_reducible exact H) | (have H2_ := (Option.bind_some _ _).symm.trans H; rw [hy637]; with_reducible exact H2_) | (have H2_ := (Option.bind_some _ _).symm.trans H; with_reducible exact H2_) | with_reducible exact H | (rw [hy637]; exact H) | exact H
     have Ny637 := Aside0.mk hy637
     clear hy637
     by_cases c7 : x637001_1.length < 17592186044416
     ·rw [if_pos c7] at H
      have LMc7 := Aside0.mk c7
      clear c7
      obtain ⟨y640, hy640⟩ : ∃ y_ : List Int, y_ = (x637001_1 ++ [wrap64 (a0 + 1)]) := ⟨_, rfl⟩
      replace H : (comfitref02_Single.l0 k1 a0 a1 a0 (wrap64 (x7_1 + 1)) y637 y640) = some (r1, r2) := by first | (rw [hy640]; with_reducible exact H) | (have H2_ := (Option.bind_some _ _).symm.trans H; rw [hy640]; with_reducible exact H2_) | (have H2_ := (Option.bind_some _ _).symm.trans H; with_reducible exact H2_) | with_reducible exact H | (rw [hy640]; exact H) | exact H
      have Ny640 := Aside0.mk hy640
      clear hy640
      have H' := Aside0.mk H
      clear H
      have hnb8 := NB636_635.out
      have hnc8 := NB635_636.out
      have hcz9_0 : wr.cell? ⟨gb636, 0, none⟩ = some (u637000) := (blk_cell BK636.out 0).trans rfl
      have hcz9_1 : wr.cell? ⟨gb636, 1, none⟩ = some (u637001) := (blk_cell BK636.out 1).trans rfl
      have hfz9_0 := blk_frozen BK636.out 0
      have hfz9_1 := blk_frozen BK636.out 1
      go_wp2_with (first | ((with_reducible refine gate_builtin (b := .append) (xs := #[.tmp 10, .tmp 11]) rfl ?_); at_builtin; refine Kd.R_append (Kd.int .i64) (w0 := w) w.heap.size rfl (.tmp 10) (.tmp 11) 22 3 (.int .i64 0) 8 rfl Try.underlying22 info3 rfl (by decide) (by omega) u637000 x637000_1 (-1) [.int .i64 (-1)] (fun k_ => some k_ ≠ (u637001 : Value).ownBlock) (fun _ => False) rfl rfl ?aP (fun _ hk => hk.elim) ?aF ?aO ?aB ?aS ?aL ?_; (case aP => exact rfl); (case aB => exact (hb_ HB.out)); (case aF => exact (fun k_ hk => Kd.fresh' (Kd.R_lt (kr_ (HO_637001.out))) k_ hk)); (case aO => exact (kr_ (HO_637000.out))); (case aS => exact (below_size (hb_ HB.out))); (case aL => have := LMc6.out; omega); intro v638 w10 ho hb hg hat; rw [← Ny637.out] at ho; have n0_ := Aside0.mk (Kd.R_after (ok := (fun _ => True)) (by (with_reducible repeat (first | apply Kd.R_alloc | apply Kd.R_drewN | apply Kd.R_drew)); exact Kd.R_mono HO_637001.out (fun _ hk => ⟨trivial, hk⟩)) hg hat); have n1_ := Aside0.mk (blk_grown (g := gb635) (o := .cells #[.slice none 0 0, .slice none 0 0] 24 (0, 0)) (bk_ BK635.out) hg (Kd.R_ne HO_637000.out BK635.out (by decide))); have n2_ := Aside0.mk (blk_grown (g := gb636) (o := .cells #[u637000, u637001] 24 (0, 0)) (bk_ BK636.out) hg (Kd.R_ne HO_637000.out BK636.out (by decide))); have n3_ := Aside0.mk (hb); have n4_ := Aside0.mk (ho); clear HO_637001; clear BK635; clear BK636; clear HB; clear HO_637000; have HO_637001 := n0_; have BK635 := n1_; have BK636 := n2_; have HB := n3_; have HO639 := n4_; clear n0_ n1_ n2_ n3_ n4_; clear ho hb hg hat; obtain ⟨Ao11, co11, eo11⟩ := Kd.R_slice HO639.out; subst eo11; have hcz12_0 : w10.cell? ⟨gb636, 0, none⟩ = some (u637000) := (blk_cell BK636.out 0).trans rfl; have hcz12_1 : w10.cell? ⟨gb636, 1, none⟩ = some (u637001) := (blk_cell BK636.out 1).trans rfl; have hfz12_0 := blk_frozen BK636.out 0; have hfz12_1 := blk_frozen BK636.out 1) | ((with_reducible refine gate_builtin (b := .append) (xs := #[.tmp 15, .tmp 18]) rfl ?_); at_builtin; refine Kd.R_append (Kd.int .i64) (w0 := w) w.heap.size rfl (.tmp 15) (.tmp 18) 22 3 (.int .i64 0) 8 rfl Try.underlying22 info3 rfl (by decide) (by omega) u637001 x637001_1 (wrap64 (a0 + 1)) [.int .i64 (wrap64 (a0 + 1))] (fun k_ => some k_ ≠ (.slice Ao11 y637.length co11 : Value).ownBlock) (fun _ => False) rfl (by first | (go_simp; done) | (go_simp; rfl)) ?aP (fun _ hk => hk.elim) ?aF ?aO ?aB ?aS ?aL ?_; (case aP => exact rfl); (case aB => exact (hb_ HB.out)); (case aF => exact (fun k_ hk => Kd.fresh' (Kd.R_lt (by (with_reducible repeat (first | apply Kd.R_alloc | apply Kd.R_drewN | apply Kd.R_drew)); exact (Kd.R_mono (Kd.R_far (p := ⟨gb636, 0, none⟩) (Kd.R_types HO639.out BK636.out (by decide)) (fun _ hk => hk.2) (.slice Ao11 y637.length co11)) (fun _ h_ => h_.1)))) k_ hk)); (case aO => exact (by (with_reducible repeat (first | apply Kd.R_alloc | apply Kd.R_drewN | apply Kd.R_drew)); exact Kd.R_mono (Kd.R_far (p := ⟨gb636, 0, none⟩) (Kd.R_types HO_637001.out BK636.out (by decide)) (fun _ hk => hk.2) (.slice Ao11 y637.length co11)) (fun _ hk => hk.1.2))); (case aS => exact (below_size (hb_ HB.out))); (case aL => have := LMc7.out; omega); intro v641 w13 ho hb hg hat; rw [← Ny640.out] at ho; have n0_ := Aside0.mk (blk_grown (g := gb635) (o := .cells #[.slice none 0 0, .slice none 0 0] 24 (0, 0)) (by (with_reducible repeat (first | refine blk_drewN ?_ _ | refine blk_drew ?_ | refine blk_alloc ?_ _)); refine blk_far ?_ NB635_636.out _; (with_reducible repeat (first | refine blk_drewN ?_ _ | refine blk_drew ?_ | refine blk_alloc ?_ _)); exact BK635.out) hg (Kd.R_ne HO_637001.out BK635.out (by decide))); have n1_ := Aside0.mk (blk_grown (g := gb636) (o := .cells #[.slice Ao11 y637.length co11, u637001] 24 (0, 0)) (by (with_reducible repeat (first | refine blk_drewN ?_ _ | refine blk_drew ?_ | refine blk_alloc ?_ _)); refine blk_put (cs := #[u637000, u637001]) ?_ 0 _ rfl; (with_reducible repeat (first | refine blk_drewN ?_ _ | refine blk_drew ?_ | refine blk_alloc ?_ _)); exact BK636.out) hg (Kd.R_ne HO_637001.out BK636.out (by decide))); have n2_ := Aside0.mk (Kd.R_after (ok := (fun _ => True)) (by (with_reducible repeat (first | apply Kd.R_alloc | apply Kd.R_drewN | apply Kd.R_drew)); exact Kd.R_mono (Kd.R_far (p := ⟨gb636, 0, none⟩) (Kd.R_types HO639.out BK636.out (by decide)) (fun _ hk => hk.2) (.slice Ao11 y637.length co11)) (fun _ hk => ⟨trivial, hk.1⟩)) hg hat); have n3_ := Aside0.mk (hb); have n4_ := Aside0.mk (ho); clear BK635; clear BK636; clear HO639; clear HB; clear HO_637001; have BK635 := n0_; have BK636 := n1_; have HO639 := n2_; have HB := n3_; have HO642 := n4_; clear n0_ n1_ n2_ n3_ n4_; clear ho hb hg hat; obtain ⟨Ao14, co14, eo14⟩ := Kd.R_slice HO642.out; subst eo14; have hcz15_0 : w13.cell? ⟨gb636, 0, none⟩ = some (.slice Ao11 y637.length co11) := (blk_cell BK636.out 0).trans rfl; have hcz15_1 : w13.cell? ⟨gb636, 1, none⟩ = some (u637001) := (blk_cell BK636.out 1).trans rfl; have hfz15_0 := blk_frozen BK636.out 0; have hfz15_1 := blk_frozen BK636.out 1))
      go_roundg k1
      case measure => have := HK1.out; omega
      case rel => exact ⟨(wrap64 (x7_1 + 1)), (y637), (y640), (.slice Ao11 y637.length co11), (.slice Ao14 y640.length co14), (by first | rfl | (simp; done) | (simp [*]; done)), H', ⟨by have := HK1.out; omega⟩, ⟨by (with_reducible repeat (first | apply Kd.R_alloc | apply Kd.R_drewN | apply Kd.R_drew)); exact Kd.R_mono (Kd.R_far (p := ⟨gb636, 1, none⟩) (Kd.R_types HO639.out BK636.out (by decide)) (fun _ hk => hk.2) (.slice Ao14 y640.length co14)) (fun _ hk => hk.1.2)⟩, ⟨by (with_reducible repeat (first | apply Kd.R_alloc | apply Kd.R_drewN | apply Kd.R_drew)); exact Kd.R_mono (Kd.R_far (p := ⟨gb636, 1, none⟩) (Kd.R_types HO642.out BK636.out (by decide)) (fun _ hk => hk.2) (.slice Ao14 y640.length co14)) (fun _ hk => hk.1)⟩, ⟨by (with_reducible repeat (first | refine blk_drewN ?_ _ | refine blk_drew ?_ | refine blk_alloc ?_ _)); refine blk_far ?_ NB635_636.out _; (with_reducible repeat (first | refine blk_drewN ?_ _ | refine blk_drew ?_ | refine blk_alloc ?_ _)); exact BK635.out⟩, ⟨by (with_reducible repeat (first | refine blk_drewN ?_ _ | refine blk_drew ?_ | refine blk_alloc ?_ _)); refine blk_put (cs := #[.slice Ao11 y637.length co11, u637001]) ?_ 1 _ rfl; (with_reducible repeat (first | refine blk_drewN ?_ _ | refine blk_drew ?_ | refine blk_alloc ?_ _)); exact BK636.out⟩, ⟨by repeat (first | (with_reducible first | exact HB.out | apply below_alloc | apply pw_below_drewN | apply below_drew1 | refine below_set ?_ GE635.out | refine below_set ?_ GE636.out) | exact HB.out)⟩⟩
     ·rw [if_neg c7] at H
      exact absurd H (by simp)
    ·rw [if_neg c6] at H
     exact absurd H (by simp)
   ·rw [if_neg c5] at H
    have c5b0 : decide (x7_1 < a0) = false := decide_eq_false c5
    clear c5
    obtain ⟨ji16, hji16⟩ : ∃ j_ : Int, (wrap64 (a0 - 1)) = j_ := ⟨_, rfl⟩
    replace H : (if 0 ≤ (ji16) then (if (ji16) < (x637000_1.length : Int) then (if (ji16) < (x637001_1.length : Int) then (some ((x637000_1.set ((ji16) : Int).toNat a1), (x637001_1.set ((ji16) : Int).toNat (wrap64 (a1 + 1))))) else (none)) else (none)) else (none)) = some (r1, r2) := by first | (rw [hji16] at H; exact H) | (simp only [hji16] at H ⊢; exact H)
    have hji16w : (IntKind.i64.wrap (a0 - 1)) = ji16 := (i64_w _).trans hji16
    by_cases c17 : 0 ≤ (ji16)
    ·rw [if_pos c17] at H
     have c17b0 : decide (0 ≤ (ji16)) = true := decide_eq_true c17
     clear c17
     by_cases c18 : (ji16) < (x637000_1.length : Int)
     ·rw [if_pos c18] at H
      have c18b0 : decide ((ji16) < (x637000_1.length : Int)) = true := decide_eq_true c18
      clear c18
      obtain ⟨y643, hy643⟩ : ∃ y_ : List Int, y_ = (x637000_1.set ((ji16) : Int).toNat a1) := ⟨_, rfl⟩
      replace H : (if (ji16) < (x637001_1.length : Int) then (some (y643, (x637001_1.set ((ji16) : Int).toNat (wrap64 (a1 + 1))))) else (none)) = some (r1, r2) := by first | (rw [hy643]; with_reducible exact H) | (have H2_ := (Option.bind_some _ _).symm.trans H; rw [hy643]; with_reducible exact H2_) | (have H2_ := (Option.bind_some _ _).symm.trans H; with_reducible exact H2_) | with_reducible exact H | (rw [hy643]; exact H) | exact H
      have Ny643 := Aside0.mk hy643
      clear hy643
      by_cases c20 : (ji16) < (x637001_1.length : Int)
      ·rw [if_pos c20] at H
       have c20b0 : decide ((ji16) < (x637001_1.length : Int)) = true := decide_eq_true c20
       clear c20
       obtain ⟨y644, hy644⟩ : ∃ y_ : List Int, y_ = (x637001_1.set ((ji16) : Int).toNat (wrap64 (a1 + 1))) := ⟨_, rfl⟩
       replace H : (some (y643, y644)) = some (r1, r2) := by first | (rw [hy644]; with_reducible exact H) | (have H2_ := (Option.bind_some _ _).symm.trans H; rw [hy644]; with_reducible exact H2_) | (have H2_ := (Option.bind_some _ _).symm.trans H; with_reducible exact H2_) | with_reducible exact H | (rw [hy644]; exact H) | exact H
       have Ny644 := Aside0.mk hy644
       clear hy644
       simp only [Option.some.injEq, Prod.mk.injEq] at H
       obtain ⟨rfl, rfl⟩ := H
       have hnb22 := NB636_635.out
       have hnc22 := NB635_636.out
       have hcz23_0 : wr.cell? ⟨gb636, 0, none⟩ = some (u637000) := (blk_cell BK636.out 0).trans rfl
       have hcz23_1 : wr.cell? ⟨gb636, 1, none⟩ = some (u637001) := (blk_cell BK636.out 1).trans rfl
       have hfz23_0 := blk_frozen BK636.out 0
       have hfz23_1 := blk_frozen BK636.out 1
       have p19 : 0 ≤ ((ji16) : Int) := of_decide_eq_true (by first | (with_reducible assumption) | assumption)
       have q19 : ((ji16) : Int) < ((x637000_1.length : Int) : Int) := of_decide_eq_true (by first | (with_reducible assumption) | assumption)
       obtain ⟨go19, co19, eo19, gb19, gl19, cl19, HG19⟩ := Kd.R_form HO_637000.out (by omega)
       (first | cases eo19 | (injection eo19 with ea_ en_ ec_; (first | subst ea_ | (injection ea_ with ea_; subst ea_)); subst ec_; clear en_))
       have GB19 := Aside0.mk gb19
       have GG19 := Aside0.mk HG19
       clear gb19 gl19 HG19
       obtain ⟨hx19_0, hf19_0⟩ := Kd.R_celln 0 HO_637000.out ((ji16) : Int) p19 q19
       replace p19 := eq_true p19
       replace q19 := eq_true q19
       have HP24 := Kd.R_putg HO_637000.out ((ji16) : Int) a1
       go_wp2_with (first | ((with_reducible refine gate_store (t := 3) (p := 27) rfl ?_); refine store_event (t := 3) (p := 27) (v := ?vo_w25) (w1 := (wr.setCell ⟨go19, ((ji16) : Int).toNat, none⟩ (.int .i64 a1))) ?hg ?ho ?hn ?hr ?_; (case ho => rfl); (case hg => rfl); (case hn => rfl); (case hr => first | (go_simp; done) | (go_simp; rfl)); intro w25 hw; have hg : wr.grownBy w25 (some go19) := (by rw [hw]; exact HP24.2); have hp_ : Kd.R (Kd.int .i64) 3 w25 w.heap.size (fun k_ => some k_ ≠ (u637001 : Value).ownBlock) (.slice (some ⟨go19, 0, none⟩) x637000_1.length co19) y643 := (by rw [hw, Ny643.out]; exact HP24.1); clear HP24; have n0_ := Aside0.mk (hp_); have n1_ := Aside0.mk (Kd.R_after (v := (.slice (some ⟨go19, 0, none⟩) x637000_1.length co19)) (v1 := (.slice (some ⟨go19, 0, none⟩) x637000_1.length co19)) (ok := (fun _ => True)) (by (with_reducible repeat (first | apply Kd.R_alloc | apply Kd.R_drewN | apply Kd.R_drew)); exact Kd.R_mono HO_637001.out (fun _ hk => ⟨trivial, hk⟩)) hg (.inl rfl)); have n2_ := Aside0.mk (blk_grown (g := gb635) (o := .cells #[.slice none 0 0, .slice none 0 0] 24 (0, 0)) (bk_ BK635.out) hg (Kd.R_ne HO_637000.out BK635.out (by decide))); have n3_ := Aside0.mk (blk_grown (g := gb636) (o := .cells #[.slice (some ⟨go19, 0, none⟩) x637000_1.length co19, u637001] 24 (0, 0)) (bk_ BK636.out) hg (Kd.R_ne HO_637000.out BK636.out (by decide))); have n4_ := Aside0.mk ((by rw [hw]; exact below_set (HB.out) GB19.out : Below w.heap.size w w25)); clear HO_637000; clear HO_637001; clear BK635; clear BK636; clear HB; have HO_637000 := n0_; have HO_637001 := n1_; have BK635 := n2_; have BK636 := n3_; have HB := n4_; clear n0_ n1_ n2_ n3_ n4_; clear hg hw hp_; have hcz26_0 : w25.cell? ⟨gb636, 0, none⟩ = some (.slice (some ⟨go19, 0, none⟩) x637000_1.length co19) := (blk_cell BK636.out 0).trans rfl; have hcz26_1 : w25.cell? ⟨gb636, 1, none⟩ = some (u637001) := (blk_cell BK636.out 1).trans rfl; have hfz26_0 := blk_frozen BK636.out 0; have hfz26_1 := blk_frozen BK636.out 1; have p21 : 0 ≤ ((ji16) : Int) := of_decide_eq_true (by first | (with_reducible assumption) | assumption); have q21 : ((ji16) : Int) < ((x637001_1.length : Int) : Int) := of_decide_eq_true (by first | (with_reducible assumption) | assumption); obtain ⟨go21, co21, eo21, gb21, gl21, cl21, HG21⟩ := Kd.R_form HO_637001.out (by omega); (first | cases eo21 | (injection eo21 with ea_ en_ ec_; (first | subst ea_ | (injection ea_ with ea_; subst ea_)); subst ec_; clear en_)); have GB21 := Aside0.mk gb21; have GG21 := Aside0.mk HG21; clear gb21 gl21 HG21; obtain ⟨hx21_0, hf21_0⟩ := Kd.R_celln 0 HO_637001.out ((ji16) : Int) p21 q21; replace p21 := eq_true p21; replace q21 := eq_true q21; have n_ := Aside0.mk (Kd.R_mono (ok' := (fun k_ => some k_ ≠ (.slice (some ⟨go19, 0, none⟩) x637000_1.length co19 : Value).ownBlock)) HO_637001.out (fun k_ hk => hk.2)); clear HO_637001; have HO_637001 := n_; clear n_; obtain ⟨hy27_, hz27_⟩ := Kd.R_celln 0 HO_637001.out ((ji16) : Int) (of_decide_eq_true (by first | (with_reducible assumption) | assumption)) (of_decide_eq_true (by first | (with_reducible assumption) | assumption)); have HP27 := Kd.R_putg HO_637001.out ((ji16) : Int) (wrap64 (a1 + 1))) | ((with_reducible refine gate_store (t := 3) (p := 34) rfl ?_); refine store_event (t := 3) (p := 34) (v := ?vo_w28) (w1 := (w25.setCell ⟨go21, ((ji16) : Int).toNat, none⟩ (.int .i64 (wrap64 (a1 + 1))))) ?hg ?ho ?hn ?hr ?_; (case ho => rfl); (case hg => rfl); (case hn => rfl); (case hr => first | (go_simp; done) | (go_simp; rfl)); intro w28 hw; have hg : w25.grownBy w28 (some go21) := (by rw [hw]; exact HP27.2); have hp_ : Kd.R (Kd.int .i64) 3 w28 w.heap.size (fun k_ => some k_ ≠ (.slice (some ⟨go19, 0, none⟩) x637000_1.length co19 : Value).ownBlock) (.slice (some ⟨go21, 0, none⟩) x637001_1.length co21) y644 := (by rw [hw, Ny644.out]; exact HP27.1); clear HP27; have n0_ := Aside0.mk (Kd.R_after (v := (.slice (some ⟨go21, 0, none⟩) x637001_1.length co21)) (v1 := (.slice (some ⟨go21, 0, none⟩) x637001_1.length co21)) (ok := (fun _ => True)) (by (with_reducible repeat (first | apply Kd.R_alloc | apply Kd.R_drewN | apply Kd.R_drew)); exact Kd.R_mono HO_637000.out (fun _ hk => ⟨trivial, hk⟩)) hg (.inl rfl)); have n1_ := Aside0.mk (hp_); have n2_ := Aside0.mk (blk_grown (g := gb635) (o := .cells #[.slice none 0 0, .slice none 0 0] 24 (0, 0)) (bk_ BK635.out) hg (Kd.R_ne HO_637001.out BK635.out (by decide))); have n3_ := Aside0.mk (blk_grown (g := gb636) (o := .cells #[.slice (some ⟨go19, 0, none⟩) x637000_1.length co19, .slice (some ⟨go21, 0, none⟩) x637001_1.length co21] 24 (0, 0)) (bk_ BK636.out) hg (Kd.R_ne HO_637001.out BK636.out (by decide))); have n4_ := Aside0.mk ((by rw [hw]; exact below_set (HB.out) GB21.out : Below w.heap.size w w28)); clear HO_637000; clear HO_637001; clear BK635; clear BK636; clear HB; have HO_637000 := n0_; have HO_637001 := n1_; have BK635 := n2_; have BK636 := n3_; have HB := n4_; clear n0_ n1_ n2_ n3_ n4_; clear hg hw hp_; have hcz29_0 : w28.cell? ⟨gb636, 0, none⟩ = some (.slice (some ⟨go19, 0, none⟩) x637000_1.length co19) := (blk_cell BK636.out 0).trans rfl; have hcz29_1 : w28.cell? ⟨gb636, 1, none⟩ = some (.slice (some ⟨go21, 0, none⟩) x637001_1.length co21) := (blk_cell BK636.out 1).trans rfl; have hfz29_0 := blk_frozen BK636.out 0; have hfz29_1 := blk_frozen BK636.out 1; have hcz30_0 : w28.cell? ⟨gb635, 0, none⟩ = some (.slice none 0 0) := (blk_cell BK635.out 0).trans rfl; have hcz30_1 : w28.cell? ⟨gb635, 1, none⟩ = some (.slice none 0 0) := (blk_cell BK635.out 1).trans rfl; have hfz30_0 := blk_frozen BK635.out 0; have hfz30_1 := blk_frozen BK635.out 1))
       refine bodyPost_ret (results_cell_row rfl _ _ gb635 24 #[.slice (some ⟨go19, 0, none⟩) x637000_1.length co19, .slice (some ⟨go21, 0, none⟩) x637001_1.length co21] (0, 0) _ rfl (by (with_reducible repeat (first | refine blk_drewN ?_ _ | refine blk_drew ?_ | refine blk_alloc ?_ _)); refine blk_put (cs := #[.slice (some ⟨go19, 0, none⟩) x637000_1.length co19, .slice none 0 0]) ?_ 1 _ rfl; (with_reducible repeat (first | refine blk_drewN ?_ _ | refine blk_drew ?_ | refine blk_alloc ?_ _)); refine blk_put (cs := #[.slice none 0 0, .slice none 0 0]) ?_ 0 _ rfl; (with_reducible repeat (first | refine blk_drewN ?_ _ | refine blk_drew ?_ | refine blk_alloc ?_ _)); exact BK635.out) Try.underlying24 rfl (by kernel_rfl)) rfl ?_
       exact ⟨_, _, by first | rfl | (simp [errW_none, errW_some] <;> rfl) | (simp only [← hji16]; first | rfl | (simp [errW_none, errW_some] <;> rfl)) | (simp [*, errW_none, errW_some] <;> rfl), by (with_reducible repeat (first | apply Kd.R_alloc | apply Kd.R_drewN | apply Kd.R_drew)); exact Kd.R_mono (Kd.R_far (p := ⟨gb635, 1, none⟩) (Kd.R_far (p := ⟨gb635, 0, none⟩) (Kd.R_types HO_637000.out BK635.out (by decide)) (fun _ hk => hk.2) (.slice (some ⟨go19, 0, none⟩) x637000_1.length co19)) (fun _ hk => hk.2) (.slice (some ⟨go21, 0, none⟩) x637001_1.length co21)) (fun _ hk => hk.1.2), by (with_reducible repeat (first | apply Kd.R_alloc | apply Kd.R_drewN | apply Kd.R_drew)); exact Kd.R_mono (Kd.R_far (p := ⟨gb635, 1, none⟩) (Kd.R_far (p := ⟨gb635, 0, none⟩) (Kd.R_types HO_637001.out BK635.out (by decide)) (fun _ hk => hk.2) (.slice (some ⟨go19, 0, none⟩) x637000_1.length co19)) (fun _ hk => hk.2) (.slice (some ⟨go21, 0, none⟩) x637001_1.length co21)) (fun _ hk => hk.1), by repeat (first | (with_reducible first | exact HB.out | apply below_alloc | apply pw_below_drewN | apply below_drew1 | refine below_set ?_ GE635.out | refine below_set ?_ GE636.out) | exact HB.out)⟩
      ·rw [if_neg c20] at H
       exact absurd H (by simp)
     ·rw [if_neg c18] at H
      exact absurd H (by simp)
    ·rw [if_neg c17] at H
     exact absurd H (by simp)

end Go.Proofs.Ytdppnmfljfdhaaa.X
