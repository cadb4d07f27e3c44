/- Written by a program of this session (wip/tools/xprint.py, which calls the kit's print): Go functions as Lean functions, and for each the proof that the machine's call does what it says; no conditions but those that each theorem names. -/
import Derived.Test.YtigmhomfadimnaaQX0
import Derived.Test.YtigmhomfadimnaaQXP
import Derived.Test.YtigmhomfadimnaaQXpacketsDone
import Derived.Test.YtigmhomfadimnaaQHIsSet
namespace Go.Proofs.Ytigmhomfadimnaa.X
open Go.RowKit Go.Proofs.YtigmhomfadimnaaW.PrintWords Go.Proofs.YtigmhomfadimnaaW.PrintLast Go.Proofs.YtigmhomfadimnaaW.PrintMore
attribute [local go_sem] max2_int min2_int max_two min_two max_three min_three max_four min_four   -- for this text's walks alone
set_option linter.unusedVariables false
set_option linter.unusedSimpArgs false

/-! ### packets_Enough: function 43 -/
theorem field25 (a b : Int) (w : World) : (Instr.field 25 (.agg #[.int .i64 a, .int .i64 b]) 0).run Try.prog w = .ok (.int .i64 a) w := by
  have hu25 := Try.underlying25
  unfold Instr.field
  go_simp
  simp [asAgg]
attribute [local go_sem] field25
mutual
def packets_Enough.j0 : Nat → List Int → Int → Bool → Int → Int → Option (Int × Int)
 | 0, _, _, _, _, _ => none
 | k + 1, x0, x1, x47, x544000, x544001 => if x47 = true then (some (0, 2)) else (packets_Enough.l0 k x0 x1 0 x544000 x544001)
def packets_Enough.l0 : Nat → List Int → Int → Int → Int → Int → Option (Int × Int)
 | 0, _, _, _, _, _ => none
 | k + 1, x0, x1, x48, x544000, x544001 => if x48 < 9 then ((packets_Done.f k x0 x1 x48).bind fun bt549 => ((packets_plus.f k bt549.1 bt549.2.1 (wrap64 (-x544000)) x544001).bind fun bt553 => (if bt553.1 ≥ 0 then (some (x48, 0)) else (packets_Enough.l0 k x0 x1 (wrap64 (x48 + 1)) x544000 x544001)))) else (some (0, 4))
end
def packets_Enough.f (k : Nat) (l0 : List Int) (a1 : Int) (a2_0 : Int) (a2_1 : Int) : Option (Int × Int) := (packets_weights_isSet.f k l0 (([a1] : List Int))).bind fun t547 => (if t547 = true then (if a2_1 < 1 then (packets_Enough.j0 k l0 a1 true a2_0 a2_1) else (if a2_1 > 100 then (packets_Enough.j0 k l0 a1 true a2_0 a2_1) else (if a2_0 < 0 then (packets_Enough.j0 k l0 a1 true a2_0 a2_1) else (if a2_0 > a2_1 then (packets_Enough.j0 k l0 a1 true a2_0 a2_1) else ((packets_gcd.f k a2_0 a2_1).bind fun t548 => (packets_Enough.j0 k l0 a1 (t548 != 1) a2_0 a2_1)))))) else (packets_Enough.j0 k l0 a1 true a2_0 a2_1))
set_option maxHeartbeats 8000000 in
set_option maxRecDepth 100000 in
theorem packets_Enough.calls (k : Nat) (A0 : Option Addr) (c0 : Nat) (l0 : List Int) (a1 : Int) (a2_0 : Int) (a2_1 : Int) (r1 : Int) (r2 : Int) (w : World) (hr0 : Kd.C (Kd.int .i64) w A0 l0.length l0) (hc0 : l0.length ≤ c0) (h : packets_Enough.f k l0 a1 a2_0 a2_1 = some (r1, r2)) :
  Calls Try.prog 43 #[.slice A0 l0.length c0, .int .i64 a1, .agg #[.int .i64 a2_0, .int .i64 a2_1]] w fun e w' => e = .returned (.tuple #[.int .i64 r1, .int .i64 r2]) ∧ Below w.heap.size w w' := by
 have hu25 := Try.underlying25
 have HR0 := Aside0.mk hr0
 have HC0 := Aside0.mk hc0
 clear hr0 hc0
 have HB := Aside0.mk (Below.refl w.heap.size w)
 have H : ((packets_weights_isSet.f k l0 (([a1] : List Int))).bind fun t547 => (if t547 = true then (if a2_1 < 1 then (packets_Enough.j0 k l0 a1 true a2_0 a2_1) else (if a2_1 > 100 then (packets_Enough.j0 k l0 a1 true a2_0 a2_1) else (if a2_0 < 0 then (packets_Enough.j0 k l0 a1 true a2_0 a2_1) else (if a2_0 > a2_1 then (packets_Enough.j0 k l0 a1 true a2_0 a2_1) else ((packets_gcd.f k a2_0 a2_1).bind fun t548 => (packets_Enough.j0 k l0 a1 (t548 != 1) a2_0 a2_1)))))) else (packets_Enough.j0 k l0 a1 true a2_0 a2_1))) = some (r1, r2) := h
 clear h
 have HC4 := Aside0.mk H
 clear H
 go_enter Try.func43, Try.ntmps43
 go_upto_region 2 with (first | ((with_reducible refine gate_dst (N := 5) rfl ?_); refine box_event ?hg (N := 5) ?hd (cs := #[.int .i64 a2_0, .int .i64 a2_1]) (t := 25) ?hr ?_; (case hd => rfl); (case hg => rfl); (case hr => first | (go_simp; done) | (go_simp; rfl)); intro gb543 hg w5 hbox hb; have n0_ := Aside0.mk (below_step (hb_ HB.out) hb); have n1_ := Aside0.mk (hbox); have n2_ := Aside0.mk ((by rw [hg]; exact (below_size (hb_ HB.out)) : w.heap.size ≤ gb543)); have n3_ := Aside0.mk ((by rw [hg]; exact (below_size (hb_ HB.out)) : w.heap.size ≤ gb543)); clear HB; have HB := n0_; have BK543 := n1_; have GW543 := n2_; have GE543 := n3_; clear n0_ n1_ n2_ n3_; clear hb hbox hg))
 (try simp only [Act.put, List.setIfInBounds_toArray, List.set_cons_zero, List.set_cons_succ])
 go_cut [47] (fun v47 wc => ∃ (kq : Nat) (x47_3 : Bool), v47 = .bool x47_3 ∧ Aside0 (packets_Enough.j0 kq l0 a1 x47_3 a2_0 a2_1 = some (r1, r2)) ∧ Aside0 (kq ≤ k) ∧ Aside0 (wc.heap[gb543]? = some (.cells #[.int .i64 a2_0, .int .i64 a2_1] 25 (0, 0))) ∧ Aside0 (Below w.heap.size w wc))
 case first =>
  have H := HC4.out
  clear HC4
  obtain ⟨y544, hy544⟩ : ∃ y_ : List Int, y_ = (([a1] : List Int)) := ⟨_, rfl⟩
  replace H : ((packets_weights_isSet.f k l0 y544).bind fun t547 => (if t547 = true then (if a2_1 < 1 then (packets_Enough.j0 k l0 a1 true a2_0 a2_1) else (if a2_1 > 100 then (packets_Enough.j0 k l0 a1 true a2_0 a2_1) else (if a2_0 < 0 then (packets_Enough.j0 k l0 a1 true a2_0 a2_1) else (if a2_0 > a2_1 then (packets_Enough.j0 k l0 a1 true a2_0 a2_1) else ((packets_gcd.f k a2_0 a2_1).bind fun t548 => (packets_Enough.j0 k l0 a1 (t548 != 1) a2_0 a2_1)))))) else (packets_Enough.j0 k l0 a1 true a2_0 a2_1))) = some (r1, r2) := by first | (rw [hy544]; with_reducible exact H) | (have H2_ := (Option.bind_some _ _).symm.trans H; rw [hy544]; with_reducible exact H2_) | (have H2_ := (Option.bind_some _ _).symm.trans H; with_reducible exact H2_) | with_reducible exact H | (rw [hy544]; exact H) | exact H
  have Ny544 := Aside0.mk hy544
  clear hy544
  replace H := Option.bind_eq_some_iff.mp H
  obtain ⟨t547, A60, H⟩ := H
  replace H : (if t547 = true then (if a2_1 < 1 then (packets_Enough.j0 k l0 a1 true a2_0 a2_1) else (if a2_1 > 100 then (packets_Enough.j0 k l0 a1 true a2_0 a2_1) else (if a2_0 < 0 then (packets_Enough.j0 k l0 a1 true a2_0 a2_1) else (if a2_0 > a2_1 then (packets_Enough.j0 k l0 a1 true a2_0 a2_1) else ((packets_gcd.f k a2_0 a2_1).bind fun t548 => (packets_Enough.j0 k l0 a1 (t548 != 1) a2_0 a2_1)))))) else (packets_Enough.j0 k l0 a1 true a2_0 a2_1)) = some (r1, r2) := H
  have A6 := Aside0.mk A60
  clear A60
  by_cases c7 : t547 = true
  ·subst c7
   have H1 : (if a2_1 < 1 then (packets_Enough.j0 k l0 a1 true a2_0 a2_1) else (if a2_1 > 100 then (packets_Enough.j0 k l0 a1 true a2_0 a2_1) else (if a2_0 < 0 then (packets_Enough.j0 k l0 a1 true a2_0 a2_1) else (if a2_0 > a2_1 then (packets_Enough.j0 k l0 a1 true a2_0 a2_1) else ((packets_gcd.f k a2_0 a2_1).bind fun t548 => (packets_Enough.j0 k l0 a1 (t548 != 1) a2_0 a2_1)))))) = some (r1, r2) := by rw [if_pos rfl] at H; exact H
   clear H
   have H := H1
   clear H1
   by_cases c8 : a2_1 < 1
   ·rw [if_pos c8] at H
    have c8b0 : decide (a2_1 < 1) = true := decide_eq_true c8
    clear c8
    (first | rw [c8b0] | (simp only [i64_w, i32_w]; rw [c8b0]) | skip)
    have H' := Aside0.mk H
    clear H
    go_wp2_with (first | ((with_reducible refine gate_dst (N := 15) rfl ?_); refine Kd.R_lit (Kd.int .i64) _ 3 ?hg (N := 15) ?hd (xs := ([a1] : List Int)) (inner := [.int .i64 a1]) (ok := fun _ => True) (okp := fun _ => True) ?hr ?hp (fun _ hk => hk) trivial (Below.refl _ _) (Nat.le_refl _) (by simp) ?_; (case hd => rfl); (case hg => rfl); (case hr => first | (go_simp; done) | (go_simp; rfl)); (case hp => exact (Reps.one (show Kd.M (Kd.int .i64) _ _ _ a1 [.int .i64 a1] from rfl) (Reps.none _ _))); intro v545 w9 ho10 hb hg_ hnew_; clear hg_ hnew_; (first | rw [← Ny544.out] at ho10 | (simp only [Int.reduceToNat] at ho10; rw [← Ny544.out] at ho10)); have n0_ := Aside0.mk (Kd.R_lower ho10 (below_size (hb_ HB.out))); have n1_ := Aside0.mk (bkb_ BK543.out hb); have n2_ := Aside0.mk (below_step (hb_ HB.out) hb); clear BK543; clear HB; have HO546 := n0_; have BK543 := n1_; have HB := n2_; clear n0_ n1_ n2_; clear hb ho10; obtain ⟨Ao11, co11, eo11⟩ := Kd.R_slice HO546.out; subst eo11) | ((with_reducible refine gate_callee (f := 48) rfl ?_); refine goesL_ (some 16) rfl rfl Try.func48 (by kernel_rfl) rfl #[.slice A0 l0.length c0, .slice Ao11 y544.length co11] rfl al_ ?_; (with_reducible refine (packets_weights_isSet.calls k _ _ l0 _ _ y544 true _ ?side1 ?side2 ?side3 ?side4 A6.out).mono ?_); (case side1 => exact kc_ (Kd.C_below HR0.out HB.out)); (case side2 => exact HC0.out); (case side3 => exact kc_ (Kd.R_reads' HO546.out).2.2); (case side4 => exact (Kd.R_reads' HO546.out).2.1); rintro e w12 ⟨rfl, hb⟩; refine ⟨_, rfl, ?_⟩; have n0_ := Aside0.mk (Kd.R_below (kr_ (HO546.out)) hb); have n1_ := Aside0.mk (bkb_ BK543.out hb); have n2_ := Aside0.mk (below_step (hb_ HB.out) hb); clear HO546; clear BK543; clear HB; have HO546 := n0_; have BK543 := n1_; have HB := n2_; clear n0_ n1_ n2_; (try clear hb); (try clear hb2); (try clear hk); (try clear hi); have hcz13_0 : w12.cell? ⟨gb543, 0, none⟩ = some (.int .i64 a2_0) := (blk_cell BK543.out 0).trans rfl; have hcz13_1 : w12.cell? ⟨gb543, 1, none⟩ = some (.int .i64 a2_1) := (blk_cell BK543.out 1).trans rfl; have hfz13_0 := blk_frozen BK543.out 0; have hfz13_1 := blk_frozen BK543.out 1))
    go_meet
    case rel => exact ⟨_, (true), (by first | rfl | (simp; done) | (simp [*]; done)), H', ⟨by first | omega | exact Nat.le_refl _⟩, ⟨by (with_reducible repeat (first | refine blk_drewN ?_ _ | refine blk_drew ?_ | refine blk_alloc ?_ _)); exact BK543.out⟩, ⟨by repeat (first | (with_reducible first | exact HB.out | apply below_alloc | apply pw_below_drewN | apply below_drew1 | refine below_set ?_ GE543.out) | exact HB.out)⟩⟩
   ·rw [if_neg c8] at H
    have c8b0 : decide (a2_1 < 1) = false := decide_eq_false c8
    clear c8
    (first | rw [c8b0] | (simp only [i64_w, i32_w]; rw [c8b0]) | skip)
    by_cases c14 : a2_1 > 100
    ·rw [if_pos c14] at H
     have c14b0 : decide (100 < a2_1) = true := decide_eq_true c14
     clear c14
     have H' := Aside0.mk H
     clear H
     go_wp2_with (first | ((with_reducible refine gate_dst (N := 15) rfl ?_); refine Kd.R_lit (Kd.int .i64) _ 3 ?hg (N := 15) ?hd (xs := ([a1] : List Int)) (inner := [.int .i64 a1]) (ok := fun _ => True) (okp := fun _ => True) ?hr ?hp (fun _ hk => hk) trivial (Below.refl _ _) (Nat.le_refl _) (by simp) ?_; (case hd => rfl); (case hg => rfl); (case hr => first | (go_simp; done) | (go_simp; rfl)); (case hp => exact (Reps.one (show Kd.M (Kd.int .i64) _ _ _ a1 [.int .i64 a1] from rfl) (Reps.none _ _))); intro v545 w15 ho16 hb hg_ hnew_; clear hg_ hnew_; (first | rw [← Ny544.out] at ho16 | (simp only [Int.reduceToNat] at ho16; rw [← Ny544.out] at ho16)); have n0_ := Aside0.mk (Kd.R_lower ho16 (below_size (hb_ HB.out))); have n1_ := Aside0.mk (bkb_ BK543.out hb); have n2_ := Aside0.mk (below_step (hb_ HB.out) hb); clear BK543; clear HB; have HO546 := n0_; have BK543 := n1_; have HB := n2_; clear n0_ n1_ n2_; clear hb ho16; obtain ⟨Ao17, co17, eo17⟩ := Kd.R_slice HO546.out; subst eo17) | ((with_reducible refine gate_callee (f := 48) rfl ?_); refine goesL_ (some 16) rfl rfl Try.func48 (by kernel_rfl) rfl #[.slice A0 l0.length c0, .slice Ao17 y544.length co17] rfl al_ ?_; (with_reducible refine (packets_weights_isSet.calls k _ _ l0 _ _ y544 true _ ?side1 ?side2 ?side3 ?side4 A6.out).mono ?_); (case side1 => exact kc_ (Kd.C_below HR0.out HB.out)); (case side2 => exact HC0.out); (case side3 => exact kc_ (Kd.R_reads' HO546.out).2.2); (case side4 => exact (Kd.R_reads' HO546.out).2.1); rintro e w18 ⟨rfl, hb⟩; refine ⟨_, rfl, ?_⟩; have n0_ := Aside0.mk (Kd.R_below (kr_ (HO546.out)) hb); have n1_ := Aside0.mk (bkb_ BK543.out hb); have n2_ := Aside0.mk (below_step (hb_ HB.out) hb); clear HO546; clear BK543; clear HB; have HO546 := n0_; have BK543 := n1_; have HB := n2_; clear n0_ n1_ n2_; (try clear hb); (try clear hb2); (try clear hk); (try clear hi); have hcz19_0 : w18.cell? ⟨gb543, 0, none⟩ = some (.int .i64 a2_0) := (blk_cell BK543.out 0).trans rfl; have hcz19_1 : w18.cell? ⟨gb543, 1, none⟩ = some (.int .i64 a2_1) := (blk_cell BK543.out 1).trans rfl; have hfz19_0 := blk_frozen BK543.out 0; have hfz19_1 := blk_frozen BK543.out 1))
     go_meet
     case rel => exact ⟨_, (true), (by first | rfl | (simp; done) | (simp [*]; done)), H', ⟨by first | omega | exact Nat.le_refl _⟩, ⟨by (with_reducible repeat (first | refine blk_drewN ?_ _ | refine blk_drew ?_ | refine blk_alloc ?_ _)); exact BK543.out⟩, ⟨by repeat (first | (with_reducible first | exact HB.out | apply below_alloc | apply pw_below_drewN | apply below_drew1 | refine below_set ?_ GE543.out) | exact HB.out)⟩⟩
    ·rw [if_neg c14] at H
     have c14b0 : decide (100 < a2_1) = false := decide_eq_false c14
     clear c14
     by_cases c20 : a2_0 < 0
     ·rw [if_pos c20] at H
      have c20b0 : decide (a2_0 < 0) = true := decide_eq_true c20
      clear c20
      have H' := Aside0.mk H
      clear H
      go_wp2_with (first | ((with_reducible refine gate_dst (N := 15) rfl ?_); refine Kd.R_lit (Kd.int .i64) _ 3 ?hg (N := 15) ?hd (xs := ([a1] : List Int)) (inner := [.int .i64 a1]) (ok := fun _ => True) (okp := fun _ => True) ?hr ?hp (fun _ hk => hk) trivial (Below.refl _ _) (Nat.le_refl _) (by simp) ?_; (case hd => rfl); (case hg => rfl); (case hr => first | (go_simp; done) | (go_simp; rfl)); (case hp => exact (Reps.one (show Kd.M (Kd.int .i64) _ _ _ a1 [.int .i64 a1] from rfl) (Reps.none _ _))); intro v545 w21 ho22 hb hg_ hnew_; clear hg_ hnew_; (first | rw [← Ny544.out] at ho22 | (simp only [Int.reduceToNat] at ho22; rw [← Ny544.out] at ho22)); have n0_ := Aside0.mk (Kd.R_lower ho22 (below_size (hb_ HB.out))); have n1_ := Aside0.mk (bkb_ BK543.out hb); have n2_ := Aside0.mk (below_step (hb_ HB.out) hb); clear BK543; clear HB; have HO546 := n0_; have BK543 := n1_; have HB := n2_; clear n0_ n1_ n2_; clear hb ho22; obtain ⟨Ao23, co23, eo23⟩ := Kd.R_slice HO546.out; subst eo23) | ((with_reducible refine gate_callee (f := 48) rfl ?_); refine goesL_ (some 16) rfl rfl Try.func48 (by kernel_rfl) rfl #[.slice A0 l0.length c0, .slice Ao23 y544.length co23] rfl al_ ?_; (with_reducible refine (packets_weights_isSet.calls k _ _ l0 _ _ y544 true _ ?side1 ?side2 ?side3 ?side4 A6.out).mono ?_); (case side1 => exact kc_ (Kd.C_below HR0.out HB.out)); (case side2 => exact HC0.out); (case side3 => exact kc_ (Kd.R_reads' HO546.out).2.2); (case side4 => exact (Kd.R_reads' HO546.out).2.1); rintro e w24 ⟨rfl, hb⟩; refine ⟨_, rfl, ?_⟩; have n0_ := Aside0.mk (Kd.R_below (kr_ (HO546.out)) hb); have n1_ := Aside0.mk (bkb_ BK543.out hb); have n2_ := Aside0.mk (below_step (hb_ HB.out) hb); clear HO546; clear BK543; clear HB; have HO546 := n0_; have BK543 := n1_; have HB := n2_; clear n0_ n1_ n2_; (try clear hb); (try clear hb2); (try clear hk); (try clear hi); have hcz25_0 : w24.cell? ⟨gb543, 0, none⟩ = some (.int .i64 a2_0) := (blk_cell BK543.out 0).trans rfl; have hcz25_1 : w24.cell? ⟨gb543, 1, none⟩ = some (.int .i64 a2_1) := (blk_cell BK543.out 1).trans rfl; have hfz25_0 := blk_frozen BK543.out 0; have hfz25_1 := blk_frozen BK543.out 1))
      go_meet
      case rel => exact ⟨_, (true), (by first | rfl | (simp; done) | (simp [*]; done)), H', ⟨by first | omega | exact Nat.le_refl _⟩, ⟨by (with_reducible repeat (first | refine blk_drewN ?_ _ | refine blk_drew ?_ | refine blk_alloc ?_ _)); exact BK543.out⟩, ⟨by repeat (first | (with_reducible first | exact HB.out | apply below_alloc | apply pw_below_drewN | apply below_drew1 | refine below_set ?_ GE543.out) | exact HB.out)⟩⟩
     ·rw [if_neg c20] at H
      have c20b0 : decide (a2_0 < 0) = false := decide_eq_false c20
      clear c20
      by_cases c26 : a2_0 > a2_1
      ·rw [if_pos c26] at H
       have c26b0 : decide (a2_1 < a2_0) = true := decide_eq_true c26
       clear c26
       have H' := Aside0.mk H
       clear H
       go_wp2_with (first | ((with_reducible refine gate_dst (N := 15) rfl ?_); refine Kd.R_lit (Kd.int .i64) _ 3 ?hg (N := 15) ?hd (xs := ([a1] : List Int)) (inner := [.int .i64 a1]) (ok := fun _ => True) (okp := fun _ => True) ?hr ?hp (fun _ hk => hk) trivial (Below.refl _ _) (Nat.le_refl _) (by simp) ?_; (case hd => rfl); (case hg => rfl); (case hr => first | (go_simp; done) | (go_simp; rfl)); (case hp => exact (Reps.one (show Kd.M (Kd.int .i64) _ _ _ a1 [.int .i64 a1] from rfl) (Reps.none _ _))); intro v545 w27 ho28 hb hg_ hnew_; clear hg_ hnew_; (first | rw [← Ny544.out] at ho28 | (simp only [Int.reduceToNat] at ho28; rw [← Ny544.out] at ho28)); have n0_ := Aside0.mk (Kd.R_lower ho28 (below_size (hb_ HB.out))); have n1_ := Aside0.mk (bkb_ BK543.out hb); have n2_ := Aside0.mk (below_step (hb_ HB.out) hb); clear BK543; clear HB; have HO546 := n0_; have BK543 := n1_; have HB := n2_; clear n0_ n1_ n2_; clear hb ho28; obtain ⟨Ao29, co29, eo29⟩ := Kd.R_slice HO546.out; subst eo29) | ((with_reducible refine gate_callee (f := 48) rfl ?_); refine goesL_ (some 16) rfl rfl Try.func48 (by kernel_rfl) rfl #[.slice A0 l0.length c0, .slice Ao29 y544.length co29] rfl al_ ?_; (with_reducible refine (packets_weights_isSet.calls k _ _ l0 _ _ y544 true _ ?side1 ?side2 ?side3 ?side4 A6.out).mono ?_); (case side1 => exact kc_ (Kd.C_below HR0.out HB.out)); (case side2 => exact HC0.out); (case side3 => exact kc_ (Kd.R_reads' HO546.out).2.2); (case side4 => exact (Kd.R_reads' HO546.out).2.1); rintro e w30 ⟨rfl, hb⟩; refine ⟨_, rfl, ?_⟩; have n0_ := Aside0.mk (Kd.R_below (kr_ (HO546.out)) hb); have n1_ := Aside0.mk (bkb_ BK543.out hb); have n2_ := Aside0.mk (below_step (hb_ HB.out) hb); clear HO546; clear BK543; clear HB; have HO546 := n0_; have BK543 := n1_; have HB := n2_; clear n0_ n1_ n2_; (try clear hb); (try clear hb2); (try clear hk); (try clear hi); have hcz31_0 : w30.cell? ⟨gb543, 0, none⟩ = some (.int .i64 a2_0) := (blk_cell BK543.out 0).trans rfl; have hcz31_1 : w30.cell? ⟨gb543, 1, none⟩ = some (.int .i64 a2_1) := (blk_cell BK543.out 1).trans rfl; have hfz31_0 := blk_frozen BK543.out 0; have hfz31_1 := blk_frozen BK543.out 1))
       go_meet
       case rel => exact ⟨_, (true), (by first | rfl | (simp; done) | (simp [*]; done)), H', ⟨by first | omega | exact Nat.le_refl _⟩, ⟨by (with_reducible repeat (first | refine blk_drewN ?_ _ | refine blk_drew ?_ | refine blk_alloc ?_ _)); exact BK543.out⟩, ⟨by repeat (first | (with_reducible first | exact HB.out | apply below_alloc | apply pw_below_drewN | apply below_drew1 | refine below_set ?_ GE543.out) | exact HB.out)⟩⟩
      ·rw [if_neg c26] at H
       have c26b0 : decide (a2_1 < a2_0) = false := decide_eq_false c26
       clear c26
       replace H := Option.bind_eq_some_iff.mp H
       obtain ⟨t548, A320, H⟩ := H
       replace H : (packets_Enough.j0 k l0 a1 (t548 != 1) a2_0 a2_1) = some (r1, r2) := H
       have A32 := Aside0.mk A320
       clear A320
       have H' := Aside0.mk H
       clear H
       go_wp2_with (first | ((with_reducible refine gate_dst (N := 15) rfl ?_); refine Kd.R_lit (Kd.int .i64) _ 3 ?hg (N := 15) ?hd (xs := ([a1] : List Int)) (inner := [.int .i64 a1]) (ok := fun _ => True) (okp := fun _ => True) ?hr ?hp (fun _ hk => hk) trivial (Below.refl _ _) (Nat.le_refl _) (by simp) ?_; (case hd => rfl); (case hg => rfl); (case hr => first | (go_simp; done) | (go_simp; rfl)); (case hp => exact (Reps.one (show Kd.M (Kd.int .i64) _ _ _ a1 [.int .i64 a1] from rfl) (Reps.none _ _))); intro v545 w33 ho34 hb hg_ hnew_; clear hg_ hnew_; (first | rw [← Ny544.out] at ho34 | (simp only [Int.reduceToNat] at ho34; rw [← Ny544.out] at ho34)); have n0_ := Aside0.mk (Kd.R_lower ho34 (below_size (hb_ HB.out))); have n1_ := Aside0.mk (bkb_ BK543.out hb); have n2_ := Aside0.mk (below_step (hb_ HB.out) hb); clear BK543; clear HB; have HO546 := n0_; have BK543 := n1_; have HB := n2_; clear n0_ n1_ n2_; clear hb ho34; obtain ⟨Ao35, co35, eo35⟩ := Kd.R_slice HO546.out; subst eo35) | ((with_reducible refine gate_callee (f := 48) rfl ?_); refine goesL_ (some 16) rfl rfl Try.func48 (by kernel_rfl) rfl #[.slice A0 l0.length c0, .slice Ao35 y544.length co35] rfl al_ ?_; (with_reducible refine (packets_weights_isSet.calls k _ _ l0 _ _ y544 true _ ?side1 ?side2 ?side3 ?side4 A6.out).mono ?_); (case side1 => exact kc_ (Kd.C_below HR0.out HB.out)); (case side2 => exact HC0.out); (case side3 => exact kc_ (Kd.R_reads' HO546.out).2.2); (case side4 => exact (Kd.R_reads' HO546.out).2.1); rintro e w36 ⟨rfl, hb⟩; refine ⟨_, rfl, ?_⟩; have n0_ := Aside0.mk (Kd.R_below (kr_ (HO546.out)) hb); have n1_ := Aside0.mk (bkb_ BK543.out hb); have n2_ := Aside0.mk (below_step (hb_ HB.out) hb); clear HO546; clear BK543; clear HB; have HO546 := n0_; have BK543 := n1_; have HB := n2_; clear n0_ n1_ n2_; (try clear hb); (try clear hb2); (try clear hk); (try clear hi); have hcz37_0 : w36.cell? ⟨gb543, 0, none⟩ = some (.int .i64 a2_0) := (blk_cell BK543.out 0).trans rfl; have hcz37_1 : w36.cell? ⟨gb543, 1, none⟩ = some (.int .i64 a2_1) := (blk_cell BK543.out 1).trans rfl; have hfz37_0 := blk_frozen BK543.out 0; have hfz37_1 := blk_frozen BK543.out 1) | (go_at_call 71; (with_reducible refine (packets_gcd.calls k a2_0 a2_1 t548 _ A32.out).mono ?_); rintro e w38 ⟨rfl, hb⟩; have n0_ := Aside0.mk (Kd.R_below (kr_ (HO546.out)) hb); have n1_ := Aside0.mk (bkb_ BK543.out hb); have n2_ := Aside0.mk (below_step (hb_ HB.out) hb); clear HO546; clear BK543; clear HB; have HO546 := n0_; have BK543 := n1_; have HB := n2_; clear n0_ n1_ n2_; (try clear hb); (try clear hb2); (try clear hk); (try clear hi)))
       go_meet
       case rel => exact ⟨_, ((t548 != 1)), (by first | rfl | (simp; done) | (simp [*]; done)), H', ⟨by first | omega | exact Nat.le_refl _⟩, ⟨by (with_reducible repeat (first | refine blk_drewN ?_ _ | refine blk_drew ?_ | refine blk_alloc ?_ _)); exact BK543.out⟩, ⟨by repeat (first | (with_reducible first | exact HB.out | apply below_alloc | apply pw_below_drewN | apply below_drew1 | refine below_set ?_ GE543.out) | exact HB.out)⟩⟩
  ·replace c7 := Bool.eq_false_iff.mpr c7
   subst c7
   have H1 : (packets_Enough.j0 k l0 a1 true a2_0 a2_1) = some (r1, r2) := by rw [if_neg (show ¬ (false = true) by decide)] at H; exact H
   clear H
   have H := H1
   clear H1
   have H' := Aside0.mk H
   clear H
   go_wp2_with (first | ((with_reducible refine gate_dst (N := 15) rfl ?_); refine Kd.R_lit (Kd.int .i64) _ 3 ?hg (N := 15) ?hd (xs := ([a1] : List Int)) (inner := [.int .i64 a1]) (ok := fun _ => True) (okp := fun _ => True) ?hr ?hp (fun _ hk => hk) trivial (Below.refl _ _) (Nat.le_refl _) (by simp) ?_; (case hd => rfl); (case hg => rfl); (case hr => first | (go_simp; done) | (go_simp; rfl)); (case hp => exact (Reps.one (show Kd.M (Kd.int .i64) _ _ _ a1 [.int .i64 a1] from rfl) (Reps.none _ _))); intro v545 w39 ho40 hb hg_ hnew_; clear hg_ hnew_; (first | rw [← Ny544.out] at ho40 | (simp only [Int.reduceToNat] at ho40; rw [← Ny544.out] at ho40)); have n0_ := Aside0.mk (Kd.R_lower ho40 (below_size (hb_ HB.out))); have n1_ := Aside0.mk (bkb_ BK543.out hb); have n2_ := Aside0.mk (below_step (hb_ HB.out) hb); clear BK543; clear HB; have HO546 := n0_; have BK543 := n1_; have HB := n2_; clear n0_ n1_ n2_; clear hb ho40; obtain ⟨Ao41, co41, eo41⟩ := Kd.R_slice HO546.out; subst eo41) | ((with_reducible refine gate_callee (f := 48) rfl ?_); refine goesL_ (some 16) rfl rfl Try.func48 (by kernel_rfl) rfl #[.slice A0 l0.length c0, .slice Ao41 y544.length co41] rfl al_ ?_; (with_reducible refine (packets_weights_isSet.calls k _ _ l0 _ _ y544 false _ ?side1 ?side2 ?side3 ?side4 A6.out).mono ?_); (case side1 => exact kc_ (Kd.C_below HR0.out HB.out)); (case side2 => exact HC0.out); (case side3 => exact kc_ (Kd.R_reads' HO546.out).2.2); (case side4 => exact (Kd.R_reads' HO546.out).2.1); rintro e w42 ⟨rfl, hb⟩; refine ⟨_, rfl, ?_⟩; have n0_ := Aside0.mk (Kd.R_below (kr_ (HO546.out)) hb); have n1_ := Aside0.mk (bkb_ BK543.out hb); have n2_ := Aside0.mk (below_step (hb_ HB.out) hb); clear HO546; clear BK543; clear HB; have HO546 := n0_; have BK543 := n1_; have HB := n2_; clear n0_ n1_ n2_; (try clear hb); (try clear hb2); (try clear hk); (try clear hi)))
   go_meet
   case rel => exact ⟨_, (true), (by first | rfl | (simp; done) | (simp [*]; done)), H', ⟨by first | omega | exact Nat.le_refl _⟩, ⟨by (with_reducible repeat (first | refine blk_drewN ?_ _ | refine blk_drew ?_ | refine blk_alloc ?_ _)); exact BK543.out⟩, ⟨by repeat (first | (with_reducible first | exact HB.out | apply below_alloc | apply pw_below_drewN | apply below_drew1 | refine below_set ?_ GE543.out) | exact HB.out)⟩⟩
 case rest =>
  clear HC4
  try clear c1
  try clear c2
  try clear p2
  try clear c4
  try clear c7
  try clear c8
  try clear c8b0
  try clear c14
  try clear c14b0
  try clear c20
  try clear c20b0
  try clear c26
  try clear c26b0
  try clear hcz13_0
  try clear hcz13_1
  try clear hcz19_0
  try clear hcz19_1
  try clear hcz25_0
  try clear hcz25_1
  try clear hcz31_0
  try clear hcz31_1
  try clear hcz37_0
  try clear hcz37_1
  try clear hfz13_0
  try clear hfz13_1
  try clear hfz19_0
  try clear hfz19_1
  try clear hfz25_0
  try clear hfz25_1
  try clear hfz31_0
  try clear hfz31_1
  try clear hfz37_0
  try clear hfz37_1
  obtain ⟨kq, x47_3, rfl, HA, HJ3, BK543, HB⟩ := hcut
  cases kq with
  | zero => exact absurd HA.out (by simp [packets_Enough.j0])
  | succ kj3 =>
   have H := HA.out
   clear HA
   simp only [packets_Enough.j0] at H
   by_cases c43 : x47_3 = true
   ·subst c43
    have H1 : (some (0, 2)) = some (r1, r2) := by rw [if_pos rfl] at H; exact H
    clear H
    have H := H1
    clear H1
    simp only [Option.some.injEq, Prod.mk.injEq] at H
    obtain ⟨rfl, rfl⟩ := H
    go_wp2
    go_ret2
    exact ⟨by first | rfl | (simp [errW_none, errW_some] <;> rfl) | (simp [*, errW_none, errW_some] <;> rfl), by repeat (first | (with_reducible first | exact HB.out | apply below_alloc | apply pw_below_drewN | apply below_drew1 | refine below_set ?_ GE543.out) | exact HB.out)⟩
   ·replace c43 := Bool.eq_false_iff.mpr c43
    subst c43
    have H1 : (packets_Enough.l0 kj3 l0 a1 0 a2_0 a2_1) = some (r1, r2) := by rw [if_neg (show ¬ (false = true) by decide)] at H; exact H
    clear H
    have H := H1
    clear H1
    have H' := Aside0.mk H
    clear H
    go_wp2
    go_loopg [48] kj3 (fun kq v48 w' => ∃ (x48_2 : Int), v48 = .int .i64 x48_2 ∧ Aside0 (packets_Enough.l0 kq l0 a1 x48_2 a2_0 a2_1 = some (r1, r2)) ∧ Aside0 (kq ≤ kj3) ∧ Aside0 (w'.heap[gb543]? = some (.cells #[.int .i64 a2_0, .int .i64 a2_1] 25 (0, 0))) ∧ Aside0 (Below w.heap.size w w'))
    case atStart => exact ⟨(0), (by first | rfl | (simp; done) | (simp [*]; done)), H', ⟨Nat.le_refl _⟩, ⟨by (with_reducible repeat (first | refine blk_drewN ?_ _ | refine blk_drew ?_ | refine blk_alloc ?_ _)); exact BK543.out⟩, ⟨by repeat (first | (with_reducible first | exact HB.out | apply below_alloc | apply pw_below_drewN | apply below_drew1 | refine below_set ?_ GE543.out) | exact HB.out)⟩⟩
    case round =>
     clear H'
     try clear c1
     try clear c2
     try clear p2
     try clear c4
     try clear c7
     try clear c8
     try clear c8b0
     try clear c14
     try clear c14b0
     try clear c20
     try clear c20b0
     try clear c26
     try clear c26b0
     try clear c43
     try clear hcz13_0
     try clear hcz13_1
     try clear hcz19_0
     try clear hcz19_1
     try clear hcz25_0
     try clear hcz25_1
     try clear hcz31_0
     try clear hcz31_1
     try clear hcz37_0
     try clear hcz37_1
     try clear hfz13_0
     try clear hfz13_1
     try clear hfz19_0
     try clear hfz19_1
     try clear hfz25_0
     try clear hfz25_1
     try clear hfz31_0
     try clear hfz31_1
     try clear hfz37_0
     try clear hfz37_1
     try clear p2
     obtain ⟨x48_2, rfl, HA, HK2, BK543, HB⟩ := hrel
     cases gk with
     | zero => exact absurd HA.out (by simp [packets_Enough.l0])
     | succ k2 =>
      have H := HA.out
      clear HA
      simp only [packets_Enough.l0] at H
      by_cases c44 : x48_2 < 9
      ·rw [if_pos c44] at H
       have c44b0 : decide (x48_2 < 9) = true := decide_eq_true c44
       clear c44
       replace H := Option.bind_eq_some_iff.mp H
       obtain ⟨⟨t549, t550, t551⟩, A450, H⟩ := H
       replace H : ((packets_plus.f k2 t549 t550 (wrap64 (-a2_0)) a2_1).bind fun bt553 => (if bt553.1 ≥ 0 then (some (x48_2, 0)) else (packets_Enough.l0 k2 l0 a1 (wrap64 (x48_2 + 1)) a2_0 a2_1))) = some (r1, r2) := H
       have A45 := Aside0.mk A450
       clear A450
       replace H := Option.bind_eq_some_iff.mp H
       obtain ⟨⟨t553, t554⟩, A460, H⟩ := H
       replace H : (if t553 ≥ 0 then (some (x48_2, 0)) else (packets_Enough.l0 k2 l0 a1 (wrap64 (x48_2 + 1)) a2_0 a2_1)) = some (r1, r2) := H
       have A46 := Aside0.mk A460
       clear A460
       by_cases c47 : t553 ≥ 0
       ·rw [if_pos c47] at H
        have c47b0 : decide (0 ≤ t553) = true := decide_eq_true c47
        clear c47
        simp only [Option.some.injEq, Prod.mk.injEq] at H
        obtain ⟨rfl, rfl⟩ := H
        go_wp2_with (first | ((with_reducible refine gate_callee (f := 37) rfl ?_); refine goesL_ (some 55) rfl rfl Try.func37 (by kernel_rfl) rfl #[.slice A0 l0.length c0, .int .i64 a1, .int .i64 x48_2] rfl al_ ?_; (with_reducible refine (packets_Done.calls k2 _ _ l0 a1 x48_2 t549 t550 t551 _ ?side1 ?side2 A45.out).mono ?_); (case side1 => exact kc_ (Kd.C_below HR0.out HB.out)); (case side2 => exact HC0.out); rintro e w48 ⟨rfl, hb⟩; refine ⟨_, rfl, ?_⟩; have n0_ := Aside0.mk (bkb_ BK543.out hb); have n1_ := Aside0.mk (below_step (hb_ HB.out) hb); clear BK543; clear HB; have BK543 := n0_; have HB := n1_; clear n0_ n1_; (try clear hb); (try clear hb2); (try clear hk); (try clear hi)) | ((with_reducible refine gate_dst (N := 10) rfl ?_); refine box_event ?hg (N := 10) ?hd (cs := #[.int .i64 0, .int .i64 0]) (t := 25) ?hr ?_; (case hd => rfl); (case hg => rfl); (case hr => first | (go_simp; done) | (go_simp; rfl)); intro gb552 hg w49 hbox hb; have n0_ := Aside0.mk (bkb_ BK543.out hb); have n1_ := Aside0.mk (below_step (hb_ HB.out) hb); have n2_ := Aside0.mk (hbox); have n3_ := Aside0.mk ((by rw [hg]; exact (below_size (hb_ HB.out)) : w.heap.size ≤ gb552)); have n4_ := Aside0.mk ((by rw [hg]; exact (below_size (hb_ HB.out)) : w.heap.size ≤ gb552)); have n5_ := Aside0.mk ((by rw [hg]; exact Nat.ne_of_lt (bkl_ BK543.out) : gb543 ≠ gb552)); have n6_ := Aside0.mk ((by rw [hg]; exact Nat.ne_of_gt (bkl_ BK543.out) : gb552 ≠ gb543)); clear BK543; clear HB; have BK543 := n0_; have HB := n1_; have BK552 := n2_; have GW552 := n3_; have GE552 := n4_; have NB543_552 := n5_; have NB552_543 := n6_; clear n0_ n1_ n2_ n3_ n4_ n5_ n6_; clear hb hbox hg; have hnb50 := NB552_543.out; have hnc50 := NB543_552.out; have hcz51_0 : w49.cell? ⟨gb552, 0, none⟩ = some (.int .i64 0) := (blk_cell BK552.out 0).trans rfl; have hcz51_1 : w49.cell? ⟨gb552, 1, none⟩ = some (.int .i64 0) := (blk_cell BK552.out 1).trans rfl; have hfz51_0 := blk_frozen BK552.out 0; have hfz51_1 := blk_frozen BK552.out 1; have hcz52_0 : w49.cell? ⟨gb543, 0, none⟩ = some (.int .i64 a2_0) := (blk_cell BK543.out 0).trans rfl; have hcz52_1 : w49.cell? ⟨gb543, 1, none⟩ = some (.int .i64 a2_1) := (blk_cell BK543.out 1).trans rfl; have hfz52_0 := blk_frozen BK543.out 0; have hfz52_1 := blk_frozen BK543.out 1) | ((with_reducible refine gate_callee (f := 51) rfl ?_); refine goesL_ (some 65) rfl rfl Try.func51 (by kernel_rfl) rfl #[.agg #[.int .i64 t549, .int .i64 t550], .agg #[.int .i64 (wrap64 (-a2_0)), .int .i64 a2_1]] rfl al_ ?_; (with_reducible refine (packets_plus.calls k2 t549 t550 (wrap64 (-a2_0)) a2_1 t553 t554 _ A46.out).mono ?_); rintro e w53 ⟨rfl, hb⟩; refine ⟨_, rfl, ?_⟩; have n0_ := Aside0.mk (blk_below (g := gb543) (o := .cells #[.int .i64 a2_0, .int .i64 a2_1] 25 (0, 0)) (by (with_reducible repeat (first | refine blk_drewN ?_ _ | refine blk_drew ?_ | refine blk_alloc ?_ _)); refine blk_far ?_ NB543_552.out _; (with_reducible repeat (first | refine blk_drewN ?_ _ | refine blk_drew ?_ | refine blk_alloc ?_ _)); refine blk_far ?_ NB543_552.out _; (with_reducible repeat (first | refine blk_drewN ?_ _ | refine blk_drew ?_ | refine blk_alloc ?_ _)); exact BK543.out) hb); have n1_ := Aside0.mk (blk_below (g := gb552) (o := .cells #[.int .i64 t549, .int .i64 t550] 25 (0, 0)) (by (with_reducible repeat (first | refine blk_drewN ?_ _ | refine blk_drew ?_ | refine blk_alloc ?_ _)); refine blk_put (cs := #[.int .i64 t549, .int .i64 0]) ?_ 1 _ rfl; (with_reducible repeat (first | refine blk_drewN ?_ _ | refine blk_drew ?_ | refine blk_alloc ?_ _)); refine blk_put (cs := #[.int .i64 0, .int .i64 0]) ?_ 0 _ rfl; (with_reducible repeat (first | refine blk_drewN ?_ _ | refine blk_drew ?_ | refine blk_alloc ?_ _)); exact BK552.out) hb); have n2_ := Aside0.mk (below_step (hb_ HB.out) hb); clear BK543; clear BK552; clear HB; have BK543 := n0_; have BK552 := n1_; have HB := n2_; clear n0_ n1_ n2_; (try clear hb); (try clear hb2); (try clear hk); (try clear hi)))
        go_ret2
        exact ⟨by first | rfl | (simp [errW_none, errW_some] <;> rfl) | (simp [*, errW_none, errW_some] <;> rfl), by repeat (first | (with_reducible first | exact HB.out | apply below_alloc | apply pw_below_drewN | apply below_drew1 | refine below_set ?_ GE543.out | refine below_set ?_ GE552.out) | exact HB.out)⟩
       ·rw [if_neg c47] at H
        have c47b0 : decide (0 ≤ t553) = false := decide_eq_false c47
        clear c47
        have H' := Aside0.mk H
        clear H
        go_wp2_with (first | ((with_reducible refine gate_callee (f := 37) rfl ?_); refine goesL_ (some 55) rfl rfl Try.func37 (by kernel_rfl) rfl #[.slice A0 l0.length c0, .int .i64 a1, .int .i64 x48_2] rfl al_ ?_; (with_reducible refine (packets_Done.calls k2 _ _ l0 a1 x48_2 t549 t550 t551 _ ?side1 ?side2 A45.out).mono ?_); (case side1 => exact kc_ (Kd.C_below HR0.out HB.out)); (case side2 => exact HC0.out); rintro e w54 ⟨rfl, hb⟩; refine ⟨_, rfl, ?_⟩; have n0_ := Aside0.mk (bkb_ BK543.out hb); have n1_ := Aside0.mk (below_step (hb_ HB.out) hb); clear BK543; clear HB; have BK543 := n0_; have HB := n1_; clear n0_ n1_; (try clear hb); (try clear hb2); (try clear hk); (try clear hi)) | ((with_reducible refine gate_dst (N := 10) rfl ?_); refine box_event ?hg (N := 10) ?hd (cs := #[.int .i64 0, .int .i64 0]) (t := 25) ?hr ?_; (case hd => rfl); (case hg => rfl); (case hr => first | (go_simp; done) | (go_simp; rfl)); intro gb552 hg w55 hbox hb; have n0_ := Aside0.mk (bkb_ BK543.out hb); have n1_ := Aside0.mk (below_step (hb_ HB.out) hb); have n2_ := Aside0.mk (hbox); have n3_ := Aside0.mk ((by rw [hg]; exact (below_size (hb_ HB.out)) : w.heap.size ≤ gb552)); have n4_ := Aside0.mk ((by rw [hg]; exact (below_size (hb_ HB.out)) : w.heap.size ≤ gb552)); have n5_ := Aside0.mk ((by rw [hg]; exact Nat.ne_of_lt (bkl_ BK543.out) : gb543 ≠ gb552)); have n6_ := Aside0.mk ((by rw [hg]; exact Nat.ne_of_gt (bkl_ BK543.out) : gb552 ≠ gb543)); clear BK543; clear HB; have BK543 := n0_; have HB := n1_; have BK552 := n2_; have GW552 := n3_; have GE552 := n4_; have NB543_552 := n5_; have NB552_543 := n6_; clear n0_ n1_ n2_ n3_ n4_ n5_ n6_; clear hb hbox hg; have hnb56 := NB552_543.out; have hnc56 := NB543_552.out; have hcz57_0 : w55.cell? ⟨gb552, 0, none⟩ = some (.int .i64 0) := (blk_cell BK552.out 0).trans rfl; have hcz57_1 : w55.cell? ⟨gb552, 1, none⟩ = some (.int .i64 0) := (blk_cell BK552.out 1).trans rfl; have hfz57_0 := blk_frozen BK552.out 0; have hfz57_1 := blk_frozen BK552.out 1; have hcz58_0 : w55.cell? ⟨gb543, 0, none⟩ = some (.int .i64 a2_0) := (blk_cell BK543.out 0).trans rfl; have hcz58_1 : w55.cell? ⟨gb543, 1, none⟩ = some (.int .i64 a2_1) := (blk_cell BK543.out 1).trans rfl; have hfz58_0 := blk_frozen BK543.out 0; have hfz58_1 := blk_frozen BK543.out 1) | ((with_reducible refine gate_callee (f := 51) rfl ?_); refine goesL_ (some 65) rfl rfl Try.func51 (by kernel_rfl) rfl #[.agg #[.int .i64 t549, .int .i64 t550], .agg #[.int .i64 (wrap64 (-a2_0)), .int .i64 a2_1]] rfl al_ ?_; (with_reducible refine (packets_plus.calls k2 t549 t550 (wrap64 (-a2_0)) a2_1 t553 t554 _ A46.out).mono ?_); rintro e w59 ⟨rfl, hb⟩; refine ⟨_, rfl, ?_⟩; have n0_ := Aside0.mk (blk_below (g := gb543) (o := .cells #[.int .i64 a2_0, .int .i64 a2_1] 25 (0, 0)) (by (with_reducible repeat (first | refine blk_drewN ?_ _ | refine blk_drew ?_ | refine blk_alloc ?_ _)); refine blk_far ?_ NB543_552.out _; (with_reducible repeat (first | refine blk_drewN ?_ _ | refine blk_drew ?_ | refine blk_alloc ?_ _)); refine blk_far ?_ NB543_552.out _; (with_reducible repeat (first | refine blk_drewN ?_ _ | refine blk_drew ?_ | refine blk_alloc ?_ _)); exact BK543.out) hb); have n1_ := Aside0.mk (blk_below (g := gb552) (o := .cells #[.int .i64 t549, .int .i64 t550] 25 (0, 0)) (by (with_reducible repeat (first | refine blk_drewN ?_ _ | refine blk_drew ?_ | refine blk_alloc ?_ _)); refine blk_put (cs := #[.int .i64 t549, .int .i64 0]) ?_ 1 _ rfl; (with_reducible repeat (first | refine blk_drewN ?_ _ | refine blk_drew ?_ | refine blk_alloc ?_ _)); refine blk_put (cs := #[.int .i64 0, .int .i64 0]) ?_ 0 _ rfl; (with_reducible repeat (first | refine blk_drewN ?_ _ | refine blk_drew ?_ | refine blk_alloc ?_ _)); exact BK552.out) hb); have n2_ := Aside0.mk (below_step (hb_ HB.out) hb); clear BK543; clear BK552; clear HB; have BK543 := n0_; have BK552 := n1_; have HB := n2_; clear n0_ n1_ n2_; (try clear hb); (try clear hb2); (try clear hk); (try clear hi)))
        go_roundg k2
        case measure => have := HJ3.out; have := HK2.out; omega
        case rel => exact ⟨(wrap64 (x48_2 + 1)), (by first | rfl | (simp; done) | (simp [*]; done)), H', ⟨by have := HJ3.out; have := HK2.out; omega⟩, ⟨by (with_reducible repeat (first | refine blk_drewN ?_ _ | refine blk_drew ?_ | refine blk_alloc ?_ _)); exact BK543.out⟩, ⟨by repeat (first | (with_reducible first | exact HB.out | apply below_alloc | apply pw_below_drewN | apply below_drew1 | refine below_set ?_ GE543.out | refine below_set ?_ GE552.out) | exact HB.out)⟩⟩
      ·rw [if_neg c44] at H
       have c44b0 : decide (x48_2 < 9) = false := decide_eq_false c44
       clear c44
       simp only [Option.some.injEq, Prod.mk.injEq] at H
       obtain ⟨rfl, rfl⟩ := H
       go_wp2
       go_ret2
       exact ⟨by first | rfl | (simp [errW_none, errW_some] <;> rfl) | (simp [*, errW_none, errW_some] <;> rfl), by repeat (first | (with_reducible first | exact HB.out | apply below_alloc | apply pw_below_drewN | apply below_drew1 | refine below_set ?_ GE543.out) | exact HB.out)⟩

end Go.Proofs.Ytigmhomfadimnaa.X
