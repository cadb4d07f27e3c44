/- Written by a program of this session (wip/tools/xprint.py, which calls the kit's print): Go functions as Lean functions, and for each the proof that the machine's call does what it says; no conditions but those that each theorem names. -/
import Derived.Test.YtdppnmfljfdhaaaX0
namespace Go.Proofs.Ytdppnmfljfdhaaa.X
open Go.RowKit Go.Proofs.YtdppnmfljfdhaaaW.PrintWords Go.Proofs.YtdppnmfljfdhaaaW.PrintLast Go.Proofs.YtdppnmfljfdhaaaW.PrintMore
attribute [local go_sem] max2_int min2_int max_two min_two max_three min_three max_four min_four   -- for this text's walks alone
set_option linter.unusedVariables false
set_option linter.unusedSimpArgs false

/-! ### comfitref02_Short: function 49 -/
def comfitref02_Short.l0 : Nat → Int → Int → Int → List Int → List Int → Option (List Int × List Int)
 | 0, _, _, _, _, _ => none
 | k + 1, x0, x1, x6, x647000, x647001 => if x6 ≤ x0 then (if x647000.length < 17592186044416 then (if x647001.length < 17592186044416 then (comfitref02_Short.l0 k x0 x1 (wrap64 (x6 + 1)) (x647000 ++ [mx (-1) (wrap64 ((wrap64 (x1 - x0)) + x6))]) (x647001 ++ [wrap64 (x1 + 1)])) else (none)) else (none)) else (some (x647000, x647001))
def comfitref02_Short.f (k : Nat) (a0 : Int) (a1 : Int) : Option (List Int × List Int) := comfitref02_Short.l0 k a0 a1 1 ([] : List Int) ([] : List Int)
theorem comfitref02_Short.mono_l : ∀ k, (∀ y0 y1 y2 y3 y4, LeO (comfitref02_Short.l0 k y0 y1 y2 y3 y4) (comfitref02_Short.l0 (k + 1) y0 y1 y2 y3 y4))
 | 0 => fun _ _ _ _ _ r h => by simp [comfitref02_Short.l0] at h
 | k + 1 => by
  have ih0 := comfitref02_Short.mono_l k
  ·intro y0 y1 y2 y3 y4
   unfold comfitref02_Short.l0
   repeat' first
   | (with_reducible exact ih0 _ _ _ _ _)
   | (with_reducible exact LeO.refl _)
   | (with_reducible exact LeO.none _)
   | (with_reducible refine LeO.ite ?_ ?_)
   | (with_reducible refine LeO.bind ?_ (fun _ => ?_))
   | exact ih0 _ _ _ _ _
   | exact LeO.none _
   | refine LeO.ite ?_ ?_
   | refine LeO.bind ?_ (fun _ => ?_)
theorem comfitref02_Short.mono : ∀ a0 a1 k, LeO (comfitref02_Short.f k a0 a1) (comfitref02_Short.f (k + 1) a0 a1) := by
 intro a0 a1 k
 have ih0 := comfitref02_Short.mono_l k
 unfold comfitref02_Short.f
 repeat' first
   | (with_reducible exact ih0 _ _ _ _ _)
   | (with_reducible exact LeO.refl _)
   | (with_reducible exact LeO.none _)
   | (with_reducible refine LeO.ite ?_ ?_)
   | (with_reducible refine LeO.bind ?_ (fun _ => ?_))
   | exact ih0 _ _ _ _ _
   | exact LeO.none _
   | refine LeO.ite ?_ ?_
   | refine LeO.bind ?_ (fun _ => ?_)
set_option maxHeartbeats 8000000 in
set_option maxRecDepth 100000 in
theorem comfitref02_Short.calls (k : Nat) (a0 : Int) (a1 : Int) (r1 : List Int) (r2 : List Int) (w : World) (h : comfitref02_Short.f k a0 a1 = some (r1, r2)) :
  Calls Try.prog 49 #[.int .i64 a0, .int .i64 a1] w fun e w' => ∃ v0_ v1_ : Value, e = .returned (.agg #[v0_, v1_]) ∧ Kd.R (Kd.int .i64) 3 w' w.heap.size (fun k_ => some k_ ≠ (v1_ : Value).ownBlock) v0_ r1 ∧ Kd.R (Kd.int .i64) 3 w' w.heap.size (fun k_ => some k_ ≠ (v0_ : Value).ownBlock) v1_ r2 ∧ Below w.heap.size w w' := by
 have hu24 := Try.underlying24
 have HB := Aside0.mk (Below.refl w.heap.size w)
 have H : (comfitref02_Short.l0 k a0 a1 1 ([] : List Int) ([] : List Int)) = some (r1, r2) := h
 clear h
 have H' := Aside0.mk H
 clear H
 go_enter Try.func49, Try.ntmps49
 go_wp2_with (first | ((with_reducible refine gate_dst (N := 4) rfl ?_); refine box_event ?hg (N := 4) ?hd (cs := #[.slice none 0 0, .slice none 0 0]) (t := 24) ?hr ?_; (case hd => rfl); (case hg => rfl); (case hr => first | (go_simp; done) | (go_simp; rfl)); intro gb645 hg w3 hbox hb; have n0_ := Aside0.mk (below_step (hb_ HB.out) hb); have n1_ := Aside0.mk (hbox); have n2_ := Aside0.mk ((by rw [hg]; exact (below_size (hb_ HB.out)) : w.heap.size ≤ gb645)); have n3_ := Aside0.mk ((by rw [hg]; exact (below_size (hb_ HB.out)) : w.heap.size ≤ gb645)); clear HB; have HB := n0_; have BK645 := n1_; have GW645 := n2_; have GE645 := n3_; clear n0_ n1_ n2_ n3_; clear hb hbox hg) | ((with_reducible refine gate_dst (N := 5) rfl ?_); refine box_event ?hg (N := 5) ?hd (cs := #[.slice none 0 0, .slice none 0 0]) (t := 24) ?hr ?_; (case hd => rfl); (case hg => rfl); (case hr => first | (go_simp; done) | (go_simp; rfl)); intro gb646 hg w4 hbox hb; have n0_ := Aside0.mk (bkb_ BK645.out hb); have n1_ := Aside0.mk (below_step (hb_ HB.out) hb); have n2_ := Aside0.mk (hbox); have n3_ := Aside0.mk ((by rw [hg]; exact (below_size (hb_ HB.out)) : w.heap.size ≤ gb646)); have n4_ := Aside0.mk ((by rw [hg]; exact (below_size (hb_ HB.out)) : w.heap.size ≤ gb646)); have n5_ := Aside0.mk ((by rw [hg]; exact Nat.ne_of_lt (bkl_ BK645.out) : gb645 ≠ gb646)); have n6_ := Aside0.mk ((by rw [hg]; exact Nat.ne_of_gt (bkl_ BK645.out) : gb646 ≠ gb645)); clear BK645; clear HB; have BK645 := n0_; have HB := n1_; have BK646 := n2_; have GW646 := n3_; have GE646 := n4_; have NB645_646 := n5_; have NB646_645 := n6_; clear n0_ n1_ n2_ n3_ n4_ n5_ n6_; clear hb hbox hg))
 go_loopg [6] k (fun kq v6 w' => ∃ (x6_1 : Int) (x647000_1 : List Int) (x647001_1 : List Int) (u647000 : Value) (u647001 : Value), v6 = .int .i64 x6_1 ∧ Aside0 (comfitref02_Short.l0 kq a0 a1 x6_1 x647000_1 x647001_1 = some (r1, r2)) ∧ Aside0 (kq ≤ k) ∧ Aside0 (Kd.R (Kd.int .i64) 3 w' w.heap.size (fun k_ => some k_ ≠ (u647001 : Value).ownBlock) u647000 x647000_1) ∧ Aside0 (Kd.R (Kd.int .i64) 3 w' w.heap.size (fun k_ => some k_ ≠ (u647000 : Value).ownBlock) u647001 x647001_1) ∧ Aside0 (w'.heap[gb645]? = some (.cells #[(.slice none 0 0), (.slice none 0 0)] 24 (0, 0))) ∧ Aside0 (w'.heap[gb646]? = some (.cells #[u647000, u647001] 24 (0, 0))) ∧ Aside0 (Below w.heap.size w w'))
 case atStart => exact ⟨(1), (([] : List Int)), (([] : List Int)), (.slice none 0 0), (.slice none 0 0), (by first | rfl | (simp; done) | (simp [*]; done)), H', ⟨Nat.le_refl _⟩, ⟨by first | exact Kd.R_nil _ _ _ _ _ | exact Kd.N_nil _ _ _ _ _ | exact Kd.V_nil _ _ _ _ _ | exact Kd.Q_nil _ _ _ _ _ | exact Kd.S_nil _ _ _ _ _⟩, ⟨by first | exact Kd.R_nil _ _ _ _ _ | exact Kd.N_nil _ _ _ _ _ | exact Kd.V_nil _ _ _ _ _ | exact Kd.Q_nil _ _ _ _ _ | exact Kd.S_nil _ _ _ _ _⟩, ⟨by (with_reducible repeat (first | refine blk_drewN ?_ _ | refine blk_drew ?_ | refine blk_alloc ?_ _)); exact BK645.out⟩, ⟨by (with_reducible repeat (first | refine blk_drewN ?_ _ | refine blk_drew ?_ | refine blk_alloc ?_ _)); exact BK646.out⟩, ⟨by repeat (first | (with_reducible first | exact HB.out | apply below_alloc | apply pw_below_drewN | apply below_drew1 | refine below_set ?_ GE645.out | refine below_set ?_ GE646.out) | exact HB.out)⟩⟩
 case round =>
  clear H'
  try clear p2
  try clear c4
  obtain ⟨x6_1, x647000_1, x647001_1, u647000, u647001, rfl, HA, HK1, HO_647000, HO_647001, BK645, BK646, HB⟩ := hrel
  cases gk with
  | zero => exact absurd HA.out (by simp [comfitref02_Short.l0])
  | succ k1 =>
   have H := HA.out
   clear HA
   simp only [comfitref02_Short.l0] at H
   by_cases c5 : x6_1 ≤ a0
   ·rw [if_pos c5] at H
    have c5b0 : decide (x6_1 ≤ a0) = true := decide_eq_true c5
    clear c5
    obtain ⟨ji6, hji6⟩ : ∃ j_ : Int, (mx (-1) (wrap64 ((wrap64 (a1 - a0)) + x6_1))) = j_ := ⟨_, rfl⟩
    replace H : (if x647000_1.length < 17592186044416 then (if x647001_1.length < 17592186044416 then (comfitref02_Short.l0 k1 a0 a1 (wrap64 (x6_1 + 1)) (x647000_1 ++ [ji6]) (x647001_1 ++ [wrap64 (a1 + 1)])) else (none)) else (none)) = some (r1, r2) := by first | (rw [hji6] at H; exact H) | (simp only [hji6] at H ⊢; exact H)
    have hji6_ : (if (-1) < (wrap64 ((wrap64 (a1 - a0)) + x6_1)) then (wrap64 ((wrap64 (a1 - a0)) + x6_1)) else (-1)) = ji6 := hji6
    by_cases c7 : x647000_1.length < 17592186044416
    ·rw [if_pos c7] at H
     have LMc7 := Aside0.mk c7
     clear c7
     obtain ⟨y647, hy647⟩ : ∃ y_ : List Int, y_ = (x647000_1 ++ [ji6]) := ⟨_, rfl⟩
     replace H : (if x647001_1.length < 17592186044416 then (comfitref02_Short.l0 k1 a0 a1 (wrap64 (x6_1 + 1)) y647 (x647001_1 ++ [wrap64 (a1 + 1)])) else (none)) = some (r1, r2) := by first | (rw [hy647]; with_reducible exact H) | (have H2_ := (Option.bind_some _ _).symm.trans H; rw [hy647]; with_reducible exact H2_) | (have H2_ := (Option.bind_some _ _).symm.trans H; with_reducible exact H2_) | with_reducible exact H | (rw [hy647]; exact H) | exact H
     have Ny647 := Aside0.mk hy647
     clear hy647
     by_cases c8 : x647001_1.length < 17592186044416
     ·rw [if_pos c8] at H
      have LMc8 := Aside0.mk c8
      clear c8
      obtain ⟨y650, hy650⟩ : ∃ y_ : List Int, y_ = (x647001_1 ++ [wrap64 (a1 + 1)]) := ⟨_, rfl⟩
      replace H : (comfitref02_Short.l0 k1 a0 a1 (wrap64 (x6_1 + 1)) y647 y650) = some (r1, r2) := by first | (rw [hy650]; with_reducible exact H) | (have H2_ := (Option.bind_some _ _).symm.trans H; rw [hy650]; with_reducible exact H2_) | (have H2_ := (Option.bind_some _ _).symm.trans H; with_reducible exact H2_) | with_reducible exact H | (rw [hy650]; exact H) | exact H
      have Ny650 := Aside0.mk hy650
      clear hy650
      have H' := Aside0.mk H
      clear H
      have hnb9 := NB646_645.out
      have hnc9 := NB645_646.out
      have hcz10_0 : wr.cell? ⟨gb646, 0, none⟩ = some (u647000) := (blk_cell BK646.out 0).trans rfl
      have hcz10_1 : wr.cell? ⟨gb646, 1, none⟩ = some (u647001) := (blk_cell BK646.out 1).trans rfl
      have hfz10_0 := blk_frozen BK646.out 0
      have hfz10_1 := blk_frozen BK646.out 1
      go_wp2_with (first | ((with_reducible refine gate_builtin (b := .append) (xs := #[.tmp 13, .tmp 20]) rfl ?_); at_builtin; refine Kd.R_append (Kd.int .i64) (w0 := w) w.heap.size rfl (.tmp 13) (.tmp 20) 22 3 (.int .i64 0) 8 rfl Try.underlying22 info3 rfl (by decide) (by omega) u647000 x647000_1 ji6 [.int .i64 ji6] (fun k_ => some k_ ≠ (u647001 : Value).ownBlock) (fun _ => False) rfl rfl ?aP (fun _ hk => hk.elim) ?aF ?aO ?aB ?aS ?aL ?_; (case aP => exact rfl); (case aB => exact (hb_ HB.out)); (case aF => exact (fun k_ hk => Kd.fresh' (Kd.R_lt (kr_ (HO_647001.out))) k_ hk)); (case aO => exact (kr_ (HO_647000.out))); (case aS => exact (below_size (hb_ HB.out))); (case aL => have := LMc7.out; omega); intro v648 w11 ho hb hg hat; rw [← Ny647.out] at ho; have n0_ := Aside0.mk (Kd.R_after (ok := (fun _ => True)) (by (with_reducible repeat (first | apply Kd.R_alloc | apply Kd.R_drewN | apply Kd.R_drew)); exact Kd.R_mono HO_647001.out (fun _ hk => ⟨trivial, hk⟩)) hg hat); have n1_ := Aside0.mk (blk_grown (g := gb645) (o := .cells #[.slice none 0 0, .slice none 0 0] 24 (0, 0)) (bk_ BK645.out) hg (Kd.R_ne HO_647000.out BK645.out (by decide))); have n2_ := Aside0.mk (blk_grown (g := gb646) (o := .cells #[u647000, u647001] 24 (0, 0)) (bk_ BK646.out) hg (Kd.R_ne HO_647000.out BK646.out (by decide))); have n3_ := Aside0.mk (hb); have n4_ := Aside0.mk (ho); clear HO_647001; clear BK645; clear BK646; clear HB; clear HO_647000; have HO_647001 := n0_; have BK645 := n1_; have BK646 := n2_; have HB := n3_; have HO649 := n4_; clear n0_ n1_ n2_ n3_ n4_; clear ho hb hg hat; obtain ⟨Ao12, co12, eo12⟩ := Kd.R_slice HO649.out; subst eo12; have hcz13_0 : w11.cell? ⟨gb646, 0, none⟩ = some (u647000) := (blk_cell BK646.out 0).trans rfl; have hcz13_1 : w11.cell? ⟨gb646, 1, none⟩ = some (u647001) := (blk_cell BK646.out 1).trans rfl; have hfz13_0 := blk_frozen BK646.out 0; have hfz13_1 := blk_frozen BK646.out 1) | ((with_reducible refine gate_builtin (b := .append) (xs := #[.tmp 24, .tmp 27]) rfl ?_); at_builtin; refine Kd.R_append (Kd.int .i64) (w0 := w) w.heap.size rfl (.tmp 24) (.tmp 27) 22 3 (.int .i64 0) 8 rfl Try.underlying22 info3 rfl (by decide) (by omega) u647001 x647001_1 (wrap64 (a1 + 1)) [.int .i64 (wrap64 (a1 + 1))] (fun k_ => some k_ ≠ (.slice Ao12 y647.length co12 : Value).ownBlock) (fun _ => False) rfl (by first | (go_simp; done) | (go_simp; rfl)) ?aP (fun _ hk => hk.elim) ?aF ?aO ?aB ?aS ?aL ?_; (case aP => exact rfl); (case aB => exact (hb_ HB.out)); (case aF => exact (fun k_ hk => Kd.fresh' (Kd.R_lt (by (with_reducible repeat (first | apply Kd.R_alloc | apply Kd.R_drewN | apply Kd.R_drew)); exact (Kd.R_mono (Kd.R_far (p := ⟨gb646, 0, none⟩) (Kd.R_types HO649.out BK646.out (by decide)) (fun _ hk => hk.2) (.slice Ao12 y647.length co12)) (fun _ h_ => h_.1)))) k_ hk)); (case aO => exact (by (with_reducible repeat (first | apply Kd.R_alloc | apply Kd.R_drewN | apply Kd.R_drew)); exact Kd.R_mono (Kd.R_far (p := ⟨gb646, 0, none⟩) (Kd.R_types HO_647001.out BK646.out (by decide)) (fun _ hk => hk.2) (.slice Ao12 y647.length co12)) (fun _ hk => hk.1.2))); (case aS => exact (below_size (hb_ HB.out))); (case aL => have := LMc8.out; omega); intro v651 w14 ho hb hg hat; rw [← Ny650.out] at ho; have n0_ := Aside0.mk (blk_grown (g := gb645) (o := .cells #[.slice none 0 0, .slice none 0 0] 24 (0, 0)) (by (with_reducible repeat (first | refine blk_drewN ?_ _ | refine blk_drew ?_ | refine blk_alloc ?_ _)); refine blk_far ?_ NB645_646.out _; (with_reducible repeat (first | refine blk_drewN ?_ _ | refine blk_drew ?_ | refine blk_alloc ?_ _)); exact BK645.out) hg (Kd.R_ne HO_647001.out BK645.out (by decide))); have n1_ := Aside0.mk (blk_grown (g := gb646) (o := .cells #[.slice Ao12 y647.length co12, u647001] 24 (0, 0)) (by (with_reducible repeat (first | refine blk_drewN ?_ _ | refine blk_drew ?_ | refine blk_alloc ?_ _)); refine blk_put (cs := #[u647000, u647001]) ?_ 0 _ rfl; (with_reducible repeat (first | refine blk_drewN ?_ _ | refine blk_drew ?_ | refine blk_alloc ?_ _)); exact BK646.out) hg (Kd.R_ne HO_647001.out BK646.out (by decide))); have n2_ := Aside0.mk (Kd.R_after (ok := (fun _ => True)) (by (with_reducible repeat (first | apply Kd.R_alloc | apply Kd.R_drewN | apply Kd.R_drew)); exact Kd.R_mono (Kd.R_far (p := ⟨gb646, 0, none⟩) (Kd.R_types HO649.out BK646.out (by decide)) (fun _ hk => hk.2) (.slice Ao12 y647.length co12)) (fun _ hk => ⟨trivial, hk.1⟩)) hg hat); have n3_ := Aside0.mk (hb); have n4_ := Aside0.mk (ho); clear BK645; clear BK646; clear HO649; clear HB; clear HO_647001; have BK645 := n0_; have BK646 := n1_; have HO649 := n2_; have HB := n3_; have HO652 := n4_; clear n0_ n1_ n2_ n3_ n4_; clear ho hb hg hat; obtain ⟨Ao15, co15, eo15⟩ := Kd.R_slice HO652.out; subst eo15; have hcz16_0 : w14.cell? ⟨gb646, 0, none⟩ = some (.slice Ao12 y647.length co12) := (blk_cell BK646.out 0).trans rfl; have hcz16_1 : w14.cell? ⟨gb646, 1, none⟩ = some (u647001) := (blk_cell BK646.out 1).trans rfl; have hfz16_0 := blk_frozen BK646.out 0; have hfz16_1 := blk_frozen BK646.out 1))
      go_roundg k1
      case measure => have := HK1.out; omega
      case rel => exact ⟨(wrap64 (x6_1 + 1)), (y647), (y650), (.slice Ao12 y647.length co12), (.slice Ao15 y650.length co15), (by first | rfl | (simp; done) | (simp [*]; done)), H', ⟨by have := HK1.out; omega⟩, ⟨by (with_reducible repeat (first | apply Kd.R_alloc | apply Kd.R_drewN | apply Kd.R_drew)); exact Kd.R_mono (Kd.R_far (p := ⟨gb646, 1, none⟩) (Kd.R_types HO649.out BK646.out (by decide)) (fun _ hk => hk.2) (.slice Ao15 y650.length co15)) (fun _ hk => hk.1.2)⟩, ⟨by (with_reducible repeat (first | apply Kd.R_alloc | apply Kd.R_drewN | apply Kd.R_drew)); exact Kd.R_mono (Kd.R_far (p := ⟨gb646, 1, none⟩) (Kd.R_types HO652.out BK646.out (by decide)) (fun _ hk => hk.2) (.slice Ao15 y650.length co15)) (fun _ hk => hk.1)⟩, ⟨by (with_reducible repeat (first | refine blk_drewN ?_ _ | refine blk_drew ?_ | refine blk_alloc ?_ _)); refine blk_far ?_ NB645_646.out _; (with_reducible repeat (first | refine blk_drewN ?_ _ | refine blk_drew ?_ | refine blk_alloc ?_ _)); exact BK645.out⟩, ⟨by (with_reducible repeat (first | refine blk_drewN ?_ _ | refine blk_drew ?_ | refine blk_alloc ?_ _)); refine blk_put (cs := #[.slice Ao12 y647.length co12, u647001]) ?_ 1 _ rfl; (with_reducible repeat (first | refine blk_drewN ?_ _ | refine blk_drew ?_ | refine blk_alloc ?_ _)); exact BK646.out⟩, ⟨by repeat (first | (with_reducible first | exact HB.out | apply below_alloc | apply pw_below_drewN | apply below_drew1 | refine below_set ?_ GE645.out | refine below_set ?_ GE646.out) | exact HB.out)⟩⟩
     ·rw [if_neg c8] at H
      exact absurd H (by simp)
    ·rw [if_neg c7] at H
     exact absurd H (by simp)
   ·rw [if_neg c5] at H
    have c5b0 : decide (x6_1 ≤ a0) = false := decide_eq_false c5
    clear c5
    simp only [Option.some.injEq, Prod.mk.injEq] at H
    obtain ⟨rfl, rfl⟩ := H
    have hnb17 := NB646_645.out
    have hnc17 := NB645_646.out
    have hcz18_0 : wr.cell? ⟨gb646, 0, none⟩ = some (u647000) := (blk_cell BK646.out 0).trans rfl
    have hcz18_1 : wr.cell? ⟨gb646, 1, none⟩ = some (u647001) := (blk_cell BK646.out 1).trans rfl
    have hfz18_0 := blk_frozen BK646.out 0
    have hfz18_1 := blk_frozen BK646.out 1
    obtain ⟨Ao19, co19, eo19⟩ := Kd.R_slice HO_647000.out
    subst eo19
    have hcz20_0 : wr.cell? ⟨gb645, 0, none⟩ = some (.slice none 0 0) := (blk_cell BK645.out 0).trans rfl
    have hcz20_1 : wr.cell? ⟨gb645, 1, none⟩ = some (.slice none 0 0) := (blk_cell BK645.out 1).trans rfl
    have hfz20_0 := blk_frozen BK645.out 0
    have hfz20_1 := blk_frozen BK645.out 1
    obtain ⟨Ao21, co21, eo21⟩ := Kd.R_slice HO_647001.out
    subst eo21
    go_wp2
    refine bodyPost_ret (results_cell_row rfl _ _ gb645 24 #[.slice Ao19 x647000_1.length co19, .slice Ao21 x647001_1.length co21] (0, 0) _ rfl (by (with_reducible repeat (first | refine blk_drewN ?_ _ | refine blk_drew ?_ | refine blk_alloc ?_ _)); refine blk_put (cs := #[.slice Ao19 x647000_1.length co19, .slice none 0 0]) ?_ 1 _ rfl; (with_reducible repeat (first | refine blk_drewN ?_ _ | refine blk_drew ?_ | refine blk_alloc ?_ _)); refine blk_put (cs := #[.slice none 0 0, .slice none 0 0]) ?_ 0 _ rfl; (with_reducible repeat (first | refine blk_drewN ?_ _ | refine blk_drew ?_ | refine blk_alloc ?_ _)); exact BK645.out) Try.underlying24 rfl (by kernel_rfl)) rfl ?_
    exact ⟨_, _, by first | rfl | (simp [errW_none, errW_some] <;> rfl) | (simp [*, errW_none, errW_some] <;> rfl), by (with_reducible repeat (first | apply Kd.R_alloc | apply Kd.R_drewN | apply Kd.R_drew)); exact Kd.R_mono (Kd.R_far (p := ⟨gb645, 1, none⟩) (Kd.R_far (p := ⟨gb645, 0, none⟩) (Kd.R_types HO_647000.out BK645.out (by decide)) (fun _ hk => hk.2) (.slice Ao19 x647000_1.length co19)) (fun _ hk => hk.2) (.slice Ao21 x647001_1.length co21)) (fun _ hk => hk.1), by (with_reducible repeat (first | apply Kd.R_alloc | apply Kd.R_drewN | apply Kd.R_drew)); exact Kd.R_mono (Kd.R_far (p := ⟨gb645, 1, none⟩) (Kd.R_far (p := ⟨gb645, 0, none⟩) (Kd.R_types HO_647001.out BK645.out (by decide)) (fun _ hk => hk.2) (.slice Ao19 x647000_1.length co19)) (fun _ hk => hk.2) (.slice Ao21 x647001_1.length co21)) (fun _ hk => hk.1), by repeat (first | (with_reducible first | exact HB.out | apply below_alloc | apply pw_below_drewN | apply below_drew1 | refine below_set ?_ GE645.out | refine below_set ?_ GE646.out) | exact HB.out)⟩

end Go.Proofs.Ytdppnmfljfdhaaa.X
