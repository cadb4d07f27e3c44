/- Written by a program of this session (wip/tools/xprint.py, which calls the kit's print): Go functions as Lean functions, and for each the proof that the machine's call does what it says; no conditions but those that each theorem names. -/
import Derived.Test.YtjmbjnobbeflfaaQX0
import Derived.Test.YtjmbjnobbeflfaaQXE
import Derived.Test.YtjmbjnobbeflfaaQXEq
import Derived.Test.YtjmbjnobbeflfaaQXG
import Derived.Test.YtjmbjnobbeflfaaQXM
import Derived.Test.YtjmbjnobbeflfaaQXO
import Derived.Test.YtjmbjnobbeflfaaQXS
import Derived.Test.YtjmbjnobbeflfaaQXcomfitlaw06TagsFewerD
import Derived.Test.YtjmbjnobbeflfaaQHFewer
namespace Go.Proofs.Ytjmbjnobbeflfaa.X
open Go.RowKit Go.Proofs.YtjmbjnobbeflfaaW.PrintWords Go.Proofs.YtjmbjnobbeflfaaW.PrintLast Go.Proofs.YtjmbjnobbeflfaaW.PrintMore
/-- More is held from here on: what has been made amid the region. -/
theorem widen_ {P : Program} {ops : Array Oper} {Q : Exit → Act → World → Prop} {md : Region.Mode} {S S' : World → Prop} {fuel : Nat} {l : Array Bool} {a : Act} {w : World} (hS : S' w) (himp : ∀ w, S' w → S w)
    (h : S' w → wpAnyLast P md ops Q S' [] fuel l a w) : wpAnyLast P md ops Q S [] fuel l a w := by
  have h2 := h hS
  clear h
  induction fuel generalizing l a w with
  | zero => exact h2
  | succ fuel ih =>
    refine ⟨h2.1, fun i hi => wpOp_mono (fun a' w' hh => ?_) (h2.2 i hi)⟩
    have hS' := hh.1 (by simp) hS
    exact ⟨fun _ _ => himp _ hS', ih hS' hh.2⟩
attribute [local go_sem] max2_int min2_int max_two min_two max_three min_three max_four min_four   -- for this text's walks alone
set_option linter.unusedVariables false
set_option linter.unusedSimpArgs false

attribute [local go_sem high] eqA23
/-! ### comfitlaw06_TagsFewer: function 8 -/
set_option maxHeartbeats 8000000 in
set_option maxRecDepth 100000 in
theorem comfitlaw06_TagsFewer.calls (k : Nat) (A0 : Option Addr) (c0 : Nat) (l0 : List (S39)) (a1_0 : Int) (a1_1 : Int) (a2 : Int) (r : Bool) (w : World) (hr0 : Kd.C k39 w A0 l0.length l0) (hc0 : l0.length ≤ c0) (h : comfitlaw06_TagsFewer.f k l0 a1_0 a1_1 a2 = some r) :
  Calls Try.prog 8 #[.slice A0 l0.length c0, .agg #[.int .i64 a1_0, .int .i64 a1_1], .int .i64 a2] w fun e w' => e = .returned (.bool r) ∧ Below w.heap.size w w' := by
 have hu23 := Try.underlying23
 have HR0 := Aside0.mk hr0
 have HC0 := Aside0.mk hc0
 clear hr0 hc0
 have HB := Aside0.mk (Below.refl w.heap.size w)
 have H : ((comfitlaw06_Of.f k l0).bind fun t474 => ((tags_Fewer.f t474).bind fun bt477 => (if bt477.2 = 0 then ((comfitref06_Machine.f k l0).bind fun t481 => (comfitlaw06_TagsFewer.j0 k l0 a2 bt477.1 bt477.2 (!t481) a1_0 a1_1)) else (comfitlaw06_TagsFewer.j0 k l0 a2 bt477.1 bt477.2 true a1_0 a1_1)))) = some r := h
 clear h
 replace H := Option.bind_eq_some_iff.mp H
 obtain ⟨t474, A40, H⟩ := H
 replace H : ((tags_Fewer.f t474).bind fun bt477 => (if bt477.2 = 0 then ((comfitref06_Machine.f k l0).bind fun t481 => (comfitlaw06_TagsFewer.j0 k l0 a2 bt477.1 bt477.2 (!t481) a1_0 a1_1)) else (comfitlaw06_TagsFewer.j0 k l0 a2 bt477.1 bt477.2 true a1_0 a1_1))) = some r := H
 have A4 := Aside0.mk A40
 clear A40
 replace H := Option.bind_eq_some_iff.mp H
 obtain ⟨⟨t477, t478⟩, A50, H⟩ := H
 replace H : (if t478 = 0 then ((comfitref06_Machine.f k l0).bind fun t481 => (comfitlaw06_TagsFewer.j0 k l0 a2 t477 t478 (!t481) a1_0 a1_1)) else (comfitlaw06_TagsFewer.j0 k l0 a2 t477 t478 true a1_0 a1_1)) = some r := H
 have A5 := Aside0.mk A50
 clear A50
 have HC6 := Aside0.mk H
 clear H
 go_enter Try.func8, Try.ntmps8
 go_upto_region 2 with (first | ((with_reducible refine gate_dst (N := 4) rfl ?_); (try (refine gate_guard (by rfl) ?_; dsimp only)); refine box_event ?hg (N := 4) ?hd (cs := #[.int .i64 a1_0, .int .i64 a1_1]) (t := 23) ?hr ?_; (case hd => rfl); (case hg => rfl); (case hr => first | (go_simp; done) | (go_simp; rfl)); intro gb473 hg w7 hbox hb; have n0_ := Aside0.mk (below_step (hb_ HB.out) hb); have n1_ := Aside0.mk (hbox); have n2_ := Aside0.mk ((by rw [hg]; exact (below_size (hb_ HB.out)) : w.heap.size ≤ gb473)); have n3_ := Aside0.mk ((by rw [hg]; exact (below_size (hb_ HB.out)) : w.heap.size ≤ gb473)); clear HB; have HB := n0_; have BK473 := n1_; have GW473 := n2_; have GE473 := n3_; clear n0_ n1_ n2_ n3_; clear hb hbox hg) | ((with_reducible refine gate_callee (f := 11) rfl ?_); refine goesL_ (some 23) rfl rfl Try.func11 (by kernel_rfl) rfl #[.slice A0 l0.length c0] rfl al_ ?_; (with_reducible refine (comfitlaw06_Of.calls k _ _ l0 t474 _ ?side1 ?side2 A4.out).mono ?_); (case side1 => exact kc_ (Kd.C_below HR0.out HB.out)); (case side2 => exact HC0.out); rintro e w8 ⟨v475, rfl, ho0, hb⟩; refine ⟨_, rfl, ?_⟩; have n0_ := Aside0.mk (Kd.R_lower ho0 (below_size (hb_ HB.out))); have n1_ := Aside0.mk (bkb_ BK473.out hb); have n2_ := Aside0.mk (below_step (hb_ HB.out) hb); clear BK473; clear HB; have HO476 := n0_; have BK473 := n1_; have HB := n2_; clear n0_ n1_ n2_; (try clear hb); (try clear hb2); (try clear hk); (try clear hi); (try clear ho0); obtain ⟨Ao9, co9, eo9⟩ := Kd.R_slice HO476.out; subst eo9) | ((with_reducible refine gate_callee (f := 23) rfl ?_); refine goesL_ (some 24) rfl rfl Try.func23 (by kernel_rfl) rfl #[.slice Ao9 t474.length co9] rfl al_ ?_; (with_reducible refine (tags_Fewer.calls _ _ t474 t477 t478 _ ?side1 ?side2 A5.out).mono ?_); (case side1 => exact kc_ (Kd.R_reads' HO476.out).2.2); (case side2 => exact (Kd.R_reads' HO476.out).2.1); rintro e w10 ⟨v479, rfl, ho0, hb⟩; refine ⟨_, rfl, ?_⟩; have n0_ := Aside0.mk (Kd.R_elder' (kr_ (HO476.out)) (Kd.R_base ho0) hb); have n1_ := Aside0.mk (Kd.R_lower (Kd.R_new' ho0 (Kd.R_lt (kr_ (HO476.out)))) (below_size (hb_ HB.out))); have n2_ := Aside0.mk (bkb_ BK473.out hb); have n3_ := Aside0.mk (below_step (hb_ HB.out) hb); clear HO476; clear BK473; clear HB; have HO476 := n0_; have HO480 := n1_; have BK473 := n2_; have HB := n3_; clear n0_ n1_ n2_ n3_; (try clear hb); (try clear hb2); (try clear hk); (try clear hi); (try clear ho0)))
 (try simp only [Act.put, List.setIfInBounds_toArray, List.set_cons_zero, List.set_cons_succ])
 go_cut [33] (fun v33 wc => ∃ (kq : Nat) (x33_5 : Bool), v33 = .bool x33_5 ∧ Aside0 (comfitlaw06_TagsFewer.j0 kq l0 a2 t477 t478 x33_5 a1_0 a1_1 = some r) ∧ Aside0 (kq ≤ k) ∧ Aside0 (Kd.R k57 57 wc w.heap.size (fun _ => True) v479 t477) ∧ Aside0 (wc.heap[gb473]? = some (.cells #[.int .i64 a1_0, .int .i64 a1_1] 23 (0, 0))) ∧ Aside0 (Below w.heap.size w wc))
 case first =>
  have H := HC6.out
  clear HC6
  by_cases c11 : t478 = 0
  ·rw [if_pos c11] at H
   have c11b0 : (t478 == 0) = true := beq_iff_eq.mpr c11
   have c11b1 : (t478 != 0) = false := bne_eq_false_iff_eq.mpr c11
   clear c11
   (first | rw [c11b0] | (simp only [i64_w, i32_w]; rw [c11b0]) | skip)
   replace H := Option.bind_eq_some_iff.mp H
   obtain ⟨t481, A120, H⟩ := H
   replace H : (comfitlaw06_TagsFewer.j0 k l0 a2 t477 t478 (!t481) a1_0 a1_1) = some r := H
   have A12 := Aside0.mk A120
   clear A120
   as_aux_lemma =>
    have H' := Aside0.mk H
    clear H
    go_wp2_with (first | (go_at_call 12; (with_reducible refine (comfitref06_Machine.calls k _ _ l0 t481 _ ?side1 ?side2 A12.out).mono ?_); (case side1 => exact kc_ (Kd.C_below HR0.out HB.out)); (case side2 => exact HC0.out); rintro e w13 ⟨rfl, hb⟩; have n0_ := Aside0.mk (Kd.R_below (kr_ (HO476.out)) hb); have n1_ := Aside0.mk (Kd.R_below (kr_ (HO480.out)) hb); have n2_ := Aside0.mk (bkb_ BK473.out hb); have n3_ := Aside0.mk (below_step (hb_ HB.out) hb); clear HO476; clear HO480; clear BK473; clear HB; have HO476 := n0_; have HO480 := n1_; have BK473 := n2_; have HB := n3_; clear n0_ n1_ n2_ n3_; (try clear hb); (try clear hb2); (try clear hk); (try clear hi)))
    go_meet
    case rel => exact ⟨_, (!t481), (by first | rfl | (simp; done) | (simp [*]; done)), H', ⟨by first | omega | exact Nat.le_refl _⟩, ⟨by (with_reducible repeat (first | apply Kd.R_alloc | apply Kd.R_drewN | apply Kd.R_drew)); exact Kd.R_mono HO480.out (fun _ hk => trivial)⟩, ⟨by (with_reducible repeat (first | refine blk_drewN ?_ _ | refine blk_drew ?_ | refine blk_alloc ?_ _)); exact BK473.out⟩, ⟨by repeat (first | (with_reducible first | exact HB.out | apply below_alloc | apply pw_below_drewN | apply below_drew1 | refine below_set ?_ GE473.out) | exact HB.out)⟩⟩
  ·rw [if_neg c11] at H
   have c11b0 : (t478 == 0) = false := beq_eq_false_iff_ne.mpr c11
   have c11b1 : (t478 != 0) = true := bne_iff_ne.mpr c11
   (first | rw [c11b0] | (simp only [i64_w, i32_w]; rw [c11b0]) | skip)
   as_aux_lemma =>
    have H' := Aside0.mk H
    clear H
    go_wp2
    go_meet
    case rel => exact ⟨_, (true), (by first | rfl | (simp; done) | (simp [*]; done)), H', ⟨by first | omega | exact Nat.le_refl _⟩, ⟨by (with_reducible repeat (first | apply Kd.R_alloc | apply Kd.R_drewN | apply Kd.R_drew)); exact Kd.R_mono HO480.out (fun _ hk => trivial)⟩, ⟨by (with_reducible repeat (first | refine blk_drewN ?_ _ | refine blk_drew ?_ | refine blk_alloc ?_ _)); exact BK473.out⟩, ⟨by repeat (first | (with_reducible first | exact HB.out | apply below_alloc | apply pw_below_drewN | apply below_drew1 | refine below_set ?_ GE473.out) | exact HB.out)⟩⟩
 case rest =>
  clear HC6
  try clear c1
  try clear c2
  try clear p2
  try clear c8
  try clear c11
  try clear c11b0
  try clear c11b1
  obtain ⟨kq, x33_5, rfl, HA, HJ5, HO_7, BK473, HB⟩ := hcut
  cases kq with
  | zero => exact absurd HA.out (by simp [comfitlaw06_TagsFewer.j0])
  | succ kj5 =>
   have H := HA.out
   clear HA
   simp only [comfitlaw06_TagsFewer.j0] at H
   by_cases c14 : x33_5 = true
   ·subst c14
    have H1 : (if t478 = 2 then ((comfitlaw06_awake.f kj5).bind fun t482 => (some t482)) else (none)) = some r := by rw [if_pos rfl] at H; exact H
    clear H
    have H := H1
    clear H1
    by_cases c15 : t478 = 2
    ·rw [if_pos c15] at H
     have c15b0 : (t478 == 2) = true := beq_iff_eq.mpr c15
     have c15b1 : (t478 != 2) = false := bne_eq_false_iff_eq.mpr c15
     clear c15
     replace H := Option.bind_eq_some_iff.mp H
     obtain ⟨t482, A160, H⟩ := H
     replace H : (some t482) = some r := H
     have A16 := Aside0.mk A160
     clear A160
     as_aux_lemma =>
      obtain rfl := Option.some.inj H
      go_wp2_with (first | (go_at_call 14; (with_reducible refine (comfitlaw06_awake.calls kj5  t482 _ A16.out).mono ?_); rintro e w17 ⟨rfl, hb⟩; have n0_ := Aside0.mk (Kd.R_below (kr_ (HO_7.out)) hb); have n1_ := Aside0.mk (bkb_ BK473.out hb); have n2_ := Aside0.mk (below_step (hb_ HB.out) hb); clear HO_7; clear BK473; clear HB; have HO_7 := n0_; have BK473 := n1_; have HB := n2_; clear n0_ n1_ n2_; (try clear hb); (try clear hb2); (try clear hk); (try clear hi)))
      go_ret
      exact ⟨by first | rfl | (simp [errW_none, errW_some] <;> rfl) | (simp [*, errW_none, errW_some] <;> rfl), by repeat (first | (with_reducible first | exact HB.out | apply below_alloc | apply pw_below_drewN | apply below_drew1 | refine below_set ?_ GE473.out) | exact HB.out)⟩
    ·rw [if_neg c15] at H
     exact absurd H (by simp)
   ·replace c14 := Bool.eq_false_iff.mpr c14
    subst c14
    have H1 : ((tags_Order_28.f t477).bind fun t483 => ((tags_Fewer.f t483).bind fun bt486 => (if bt486.2 = 0 then ((tags_Order_29.f kj5 bt486.1 t477).bind fun t490 => (if t490 = true then (if (t477.length : Int) > (l0.length : Int) then (comfitlaw06_TagsFewer.j1 kj5 l0 a2 t477 true a1_0 a1_1) else ((comfitlaw06_own.f kj5 t477).bind fun t491 => ((comfitref06_Machine.f kj5 t491).bind fun t494 => (comfitlaw06_TagsFewer.j1 kj5 l0 a2 t477 (!t494) a1_0 a1_1)))) else (comfitlaw06_TagsFewer.j1 kj5 l0 a2 t477 true a1_0 a1_1))) else (comfitlaw06_TagsFewer.j1 kj5 l0 a2 t477 true a1_0 a1_1)))) = some r := by rw [if_neg (show ¬ (false = true) by decide)] at H; exact H
    clear H
    have H := H1
    clear H1
    replace H := Option.bind_eq_some_iff.mp H
    obtain ⟨t483, A180, H⟩ := H
    replace H : ((tags_Fewer.f t483).bind fun bt486 => (if bt486.2 = 0 then ((tags_Order_29.f kj5 bt486.1 t477).bind fun t490 => (if t490 = true then (if (t477.length : Int) > (l0.length : Int) then (comfitlaw06_TagsFewer.j1 kj5 l0 a2 t477 true a1_0 a1_1) else ((comfitlaw06_own.f kj5 t477).bind fun t491 => ((comfitref06_Machine.f kj5 t491).bind fun t494 => (comfitlaw06_TagsFewer.j1 kj5 l0 a2 t477 (!t494) a1_0 a1_1)))) else (comfitlaw06_TagsFewer.j1 kj5 l0 a2 t477 true a1_0 a1_1))) else (comfitlaw06_TagsFewer.j1 kj5 l0 a2 t477 true a1_0 a1_1))) = some r := H
    have A18 := Aside0.mk A180
    clear A180
    replace H := Option.bind_eq_some_iff.mp H
    obtain ⟨⟨t486, t487⟩, A190, H⟩ := H
    replace H : (if t487 = 0 then ((tags_Order_29.f kj5 t486 t477).bind fun t490 => (if t490 = true then (if (t477.length : Int) > (l0.length : Int) then (comfitlaw06_TagsFewer.j1 kj5 l0 a2 t477 true a1_0 a1_1) else ((comfitlaw06_own.f kj5 t477).bind fun t491 => ((comfitref06_Machine.f kj5 t491).bind fun t494 => (comfitlaw06_TagsFewer.j1 kj5 l0 a2 t477 (!t494) a1_0 a1_1)))) else (comfitlaw06_TagsFewer.j1 kj5 l0 a2 t477 true a1_0 a1_1))) else (comfitlaw06_TagsFewer.j1 kj5 l0 a2 t477 true a1_0 a1_1)) = some r := H
    have A19 := Aside0.mk A190
    clear A190
    have HC20 := Aside0.mk H
    clear H
    obtain ⟨Ao21, co21, eo21⟩ := Kd.R_slice HO_7.out
    subst eo21
    go_upto_region 5 with (first | ((with_reducible refine gate_callee (f := 28) rfl ?_); refine goesL_ (some 41) rfl rfl Try.func28 (by kernel_rfl) rfl #[.slice Ao21 t477.length co21] rfl al_ ?_; (with_reducible refine (tags_Order_28.calls _ _ t477 t483 _ ?side1 ?side2 A18.out).mono ?_); (case side1 => exact kc_ (Kd.R_reads' HO_7.out).2.2); (case side2 => exact (Kd.R_reads' HO_7.out).2.1); rintro e w22 ⟨v484, rfl, ho0, hb⟩; refine ⟨_, rfl, ?_⟩; have n0_ := Aside0.mk (Kd.R_elder' (kr_ (HO_7.out)) (Kd.R_base ho0) hb); have n1_ := Aside0.mk (Kd.R_lower (Kd.R_new' ho0 (Kd.R_lt (kr_ (HO_7.out)))) (below_size (hb_ HB.out))); have n2_ := Aside0.mk (bkb_ BK473.out hb); have n3_ := Aside0.mk (below_step (hb_ HB.out) hb); clear HO_7; clear BK473; clear HB; have HO_7 := n0_; have HO485 := n1_; have BK473 := n2_; have HB := n3_; clear n0_ n1_ n2_ n3_; (try clear hb); (try clear hb2); (try clear hk); (try clear hi); (try clear ho0); obtain ⟨Ao23, co23, eo23⟩ := Kd.R_slice HO485.out; subst eo23) | ((with_reducible refine gate_callee (f := 23) rfl ?_); refine goesL_ (some 42) rfl rfl Try.func23 (by kernel_rfl) rfl #[.slice Ao23 t483.length co23] rfl al_ ?_; (with_reducible refine (tags_Fewer.calls _ _ t483 t486 t487 _ ?side1 ?side2 A19.out).mono ?_); (case side1 => exact kc_ (Kd.R_reads' HO485.out).2.2); (case side2 => exact (Kd.R_reads' HO485.out).2.1); rintro e w24 ⟨v488, rfl, ho0, hb⟩; refine ⟨_, rfl, ?_⟩; have n0_ := Aside0.mk (Kd.R_elder' (kr_ (HO_7.out)) (Kd.R_base ho0) hb); have n1_ := Aside0.mk (Kd.R_elder' (kr_ (HO485.out)) (Kd.R_base ho0) hb); have n2_ := Aside0.mk (Kd.R_lower (Kd.R_new' (Kd.R_new' ho0 (Kd.R_lt (kr_ (HO_7.out)))) (Kd.R_lt (kr_ (HO485.out)))) (below_size (hb_ HB.out))); have n3_ := Aside0.mk (bkb_ BK473.out hb); have n4_ := Aside0.mk (below_step (hb_ HB.out) hb); clear HO_7; clear HO485; clear BK473; clear HB; have HO_7 := n0_; have HO485 := n1_; have HO489 := n2_; have BK473 := n3_; have HB := n4_; clear n0_ n1_ n2_ n3_ n4_; (try clear hb); (try clear hb2); (try clear hk); (try clear hi); (try clear ho0)))
    (try simp only [Act.put, List.setIfInBounds_toArray, List.set_cons_zero, List.set_cons_succ])
    go_cut [65] (fun v65 wc => ∃ (kq : Nat) (x65_19 : Bool), v65 = .bool x65_19 ∧ Aside0 (comfitlaw06_TagsFewer.j1 kq l0 a2 t477 x65_19 a1_0 a1_1 = some r) ∧ Aside0 (kq ≤ kj5) ∧ Aside0 (Kd.R k57 57 wc w.heap.size (fun _ => True) (.slice Ao21 t477.length co21) t477) ∧ Aside0 (wc.heap[gb473]? = some (.cells #[.int .i64 a1_0, .int .i64 a1_1] 23 (0, 0))) ∧ Aside0 (Below w.heap.size w wc))
    case first =>
     have H := HC20.out
     clear HC20
     by_cases c25 : t487 = 0
     ·rw [if_pos c25] at H
      have c25b0 : (t487 == 0) = true := beq_iff_eq.mpr c25
      have c25b1 : (t487 != 0) = false := bne_eq_false_iff_eq.mpr c25
      clear c25
      (first | rw [c25b0] | (simp only [i64_w, i32_w]; rw [c25b0]) | skip)
      replace H := Option.bind_eq_some_iff.mp H
      obtain ⟨t490, A260, H⟩ := H
      replace H : (if t490 = true then (if (t477.length : Int) > (l0.length : Int) then (comfitlaw06_TagsFewer.j1 kj5 l0 a2 t477 true a1_0 a1_1) else ((comfitlaw06_own.f kj5 t477).bind fun t491 => ((comfitref06_Machine.f kj5 t491).bind fun t494 => (comfitlaw06_TagsFewer.j1 kj5 l0 a2 t477 (!t494) a1_0 a1_1)))) else (comfitlaw06_TagsFewer.j1 kj5 l0 a2 t477 true a1_0 a1_1)) = some r := H
      have A26 := Aside0.mk A260
      clear A260
      by_cases c27 : t490 = true
      ·subst c27
       have H1 : (if (t477.length : Int) > (l0.length : Int) then (comfitlaw06_TagsFewer.j1 kj5 l0 a2 t477 true a1_0 a1_1) else ((comfitlaw06_own.f kj5 t477).bind fun t491 => ((comfitref06_Machine.f kj5 t491).bind fun t494 => (comfitlaw06_TagsFewer.j1 kj5 l0 a2 t477 (!t494) a1_0 a1_1)))) = some r := by rw [if_pos rfl] at H; exact H
       clear H
       have H := H1
       clear H1
       by_cases c28 : (t477.length : Int) > (l0.length : Int)
       ·rw [if_pos c28] at H
        have c28b0 : decide ((l0.length : Int) < (t477.length : Int)) = true := decide_eq_true c28
        have c28b1 : decide (l0.length < t477.length) = true := decide_eq_true (Int.ofNat_lt.mp c28)
        clear c28
        as_aux_lemma =>
         have H' := Aside0.mk H
         clear H
         obtain ⟨Ao29, co29, eo29⟩ := Kd.R_slice HO489.out
         subst eo29
         go_wp2_with (first | (go_at_call 29; (with_reducible refine (tags_Order_29.calls kj5 _ _ t486 _ _ t477 true _ ?side1 ?side2 ?side3 ?side4 A26.out).mono ?_); (case side1 => exact kc_ (Kd.R_reads' HO489.out).2.2); (case side2 => exact (Kd.R_reads' HO489.out).2.1); (case side3 => exact kc_ (Kd.R_reads' HO_7.out).2.2); (case side4 => exact (Kd.R_reads' HO_7.out).2.1); rintro e w' ⟨rfl, ⟨nd, rfl⟩⟩))
         go_meet
         case rel => exact ⟨_, (true), (by first | rfl | (simp; done) | (simp [*]; done)), H', ⟨by have := HJ5.out; first | omega | exact Nat.le_refl _⟩, ⟨by (with_reducible repeat (first | apply Kd.R_alloc | apply Kd.R_drewN | apply Kd.R_drew)); exact Kd.R_mono HO_7.out (fun _ hk => trivial)⟩, ⟨by (with_reducible repeat (first | refine blk_drewN ?_ _ | refine blk_drew ?_ | refine blk_alloc ?_ _)); exact BK473.out⟩, ⟨by repeat (first | (with_reducible first | exact HB.out | apply below_alloc | apply pw_below_drewN | apply below_drew1 | refine below_set ?_ GE473.out) | exact HB.out)⟩⟩
       ·rw [if_neg c28] at H
        have c28b0 : decide ((l0.length : Int) < (t477.length : Int)) = false := decide_eq_false c28
        have c28b1 : decide (l0.length < t477.length) = false := decide_eq_false (fun h => c28 (Int.ofNat_lt.mpr h))
        clear c28
        replace H := Option.bind_eq_some_iff.mp H
        obtain ⟨t491, A300, H⟩ := H
        replace H : ((comfitref06_Machine.f kj5 t491).bind fun t494 => (comfitlaw06_TagsFewer.j1 kj5 l0 a2 t477 (!t494) a1_0 a1_1)) = some r := H
        have A30 := Aside0.mk A300
        clear A300
        replace H := Option.bind_eq_some_iff.mp H
        obtain ⟨t494, A310, H⟩ := H
        replace H : (comfitlaw06_TagsFewer.j1 kj5 l0 a2 t477 (!t494) a1_0 a1_1) = some r := H
        have A31 := Aside0.mk A310
        clear A310
        as_aux_lemma =>
         have H' := Aside0.mk H
         clear H
         obtain ⟨Ao32, co32, eo32⟩ := Kd.R_slice HO489.out
         subst eo32
         go_wp2_with (first | (go_at_call 29; (with_reducible refine (tags_Order_29.calls kj5 _ _ t486 _ _ t477 true _ ?side1 ?side2 ?side3 ?side4 A26.out).mono ?_); (case side1 => exact kc_ (Kd.R_reads' HO489.out).2.2); (case side2 => exact (Kd.R_reads' HO489.out).2.1); (case side3 => exact kc_ (Kd.R_reads' HO_7.out).2.2); (case side4 => exact (Kd.R_reads' HO_7.out).2.1); rintro e w' ⟨rfl, ⟨nd, rfl⟩⟩) | (go_at_call 25; (with_reducible refine (comfitlaw06_own.calls kj5 _ _ t477 t491 _ ?side1 ?side2 A30.out).mono ?_); (case side1 => exact kc_ (Kd.R_reads' HO_7.out).2.2); (case side2 => exact (Kd.R_reads' HO_7.out).2.1); rintro e w33 ⟨v492, rfl, ho0, hb⟩; have n0_ := Aside0.mk (Kd.R_below (kr_ (HO_7.out)) hb); have n1_ := Aside0.mk (Kd.R_below (kr_ (HO485.out)) hb); have n2_ := Aside0.mk (Kd.R_below (kr_ (HO489.out)) hb); have n3_ := Aside0.mk (Kd.R_lower ho0 (below_size (hb_ HB.out))); have n4_ := Aside0.mk (bkb_ BK473.out hb); have n5_ := Aside0.mk (below_step (hb_ HB.out) hb); clear HO_7; clear HO485; clear HO489; clear BK473; clear HB; have HO_7 := n0_; have HO485 := n1_; have HO489 := n2_; have HO493 := n3_; have BK473 := n4_; have HB := n5_; clear n0_ n1_ n2_ n3_ n4_ n5_; (try clear hb); (try clear hb2); (try clear hk); (try clear hi); (try clear ho0); obtain ⟨Ao34, co34, eo34⟩ := Kd.R_slice HO493.out; subst eo34) | (go_at_call 12; (with_reducible refine (comfitref06_Machine.calls kj5 _ _ t491 t494 _ ?side1 ?side2 A31.out).mono ?_); (case side1 => exact kc_ (Kd.R_reads' HO493.out).2.2); (case side2 => exact (Kd.R_reads' HO493.out).2.1); rintro e w35 ⟨rfl, hb⟩; have n0_ := Aside0.mk (Kd.R_below (kr_ (HO_7.out)) hb); have n1_ := Aside0.mk (Kd.R_below (kr_ (HO485.out)) hb); have n2_ := Aside0.mk (Kd.R_below (kr_ (HO489.out)) hb); have n3_ := Aside0.mk (Kd.R_below (kr_ (HO493.out)) hb); have n4_ := Aside0.mk (bkb_ BK473.out hb); have n5_ := Aside0.mk (below_step (hb_ HB.out) hb); clear HO_7; clear HO485; clear HO489; clear HO493; clear BK473; clear HB; have HO_7 := n0_; have HO485 := n1_; have HO489 := n2_; have HO493 := n3_; have BK473 := n4_; have HB := n5_; clear n0_ n1_ n2_ n3_ n4_ n5_; (try clear hb); (try clear hb2); (try clear hk); (try clear hi)))
         go_meet
         case rel => exact ⟨_, (!t494), (by first | rfl | (simp; done) | (simp [*]; done)), H', ⟨by have := HJ5.out; first | omega | exact Nat.le_refl _⟩, ⟨by (with_reducible repeat (first | apply Kd.R_alloc | apply Kd.R_drewN | apply Kd.R_drew)); exact Kd.R_mono HO_7.out (fun _ hk => trivial)⟩, ⟨by (with_reducible repeat (first | refine blk_drewN ?_ _ | refine blk_drew ?_ | refine blk_alloc ?_ _)); exact BK473.out⟩, ⟨by repeat (first | (with_reducible first | exact HB.out | apply below_alloc | apply pw_below_drewN | apply below_drew1 | refine below_set ?_ GE473.out) | exact HB.out)⟩⟩
      ·replace c27 := Bool.eq_false_iff.mpr c27
       subst c27
       have H1 : (comfitlaw06_TagsFewer.j1 kj5 l0 a2 t477 true a1_0 a1_1) = some r := by rw [if_neg (show ¬ (false = true) by decide)] at H; exact H
       clear H
       have H := H1
       clear H1
       as_aux_lemma =>
        have H' := Aside0.mk H
        clear H
        obtain ⟨Ao36, co36, eo36⟩ := Kd.R_slice HO489.out
        subst eo36
        go_wp2_with (first | (go_at_call 29; (with_reducible refine (tags_Order_29.calls kj5 _ _ t486 _ _ t477 false _ ?side1 ?side2 ?side3 ?side4 A26.out).mono ?_); (case side1 => exact kc_ (Kd.R_reads' HO489.out).2.2); (case side2 => exact (Kd.R_reads' HO489.out).2.1); (case side3 => exact kc_ (Kd.R_reads' HO_7.out).2.2); (case side4 => exact (Kd.R_reads' HO_7.out).2.1); rintro e w' ⟨rfl, ⟨nd, rfl⟩⟩))
        go_meet
        case rel => exact ⟨_, (true), (by first | rfl | (simp; done) | (simp [*]; done)), H', ⟨by have := HJ5.out; first | omega | exact Nat.le_refl _⟩, ⟨by (with_reducible repeat (first | apply Kd.R_alloc | apply Kd.R_drewN | apply Kd.R_drew)); exact Kd.R_mono HO_7.out (fun _ hk => trivial)⟩, ⟨by (with_reducible repeat (first | refine blk_drewN ?_ _ | refine blk_drew ?_ | refine blk_alloc ?_ _)); exact BK473.out⟩, ⟨by repeat (first | (with_reducible first | exact HB.out | apply below_alloc | apply pw_below_drewN | apply below_drew1 | refine below_set ?_ GE473.out) | exact HB.out)⟩⟩
     ·rw [if_neg c25] at H
      have c25b0 : (t487 == 0) = false := beq_eq_false_iff_ne.mpr c25
      have c25b1 : (t487 != 0) = true := bne_iff_ne.mpr c25
      (first | rw [c25b0] | (simp only [i64_w, i32_w]; rw [c25b0]) | skip)
      as_aux_lemma =>
       have H' := Aside0.mk H
       clear H
       go_wp2
       go_meet
       case rel => exact ⟨_, (true), (by first | rfl | (simp; done) | (simp [*]; done)), H', ⟨by have := HJ5.out; first | omega | exact Nat.le_refl _⟩, ⟨by (with_reducible repeat (first | apply Kd.R_alloc | apply Kd.R_drewN | apply Kd.R_drew)); exact Kd.R_mono HO_7.out (fun _ hk => trivial)⟩, ⟨by (with_reducible repeat (first | refine blk_drewN ?_ _ | refine blk_drew ?_ | refine blk_alloc ?_ _)); exact BK473.out⟩, ⟨by repeat (first | (with_reducible first | exact HB.out | apply below_alloc | apply pw_below_drewN | apply below_drew1 | refine below_set ?_ GE473.out) | exact HB.out)⟩⟩
    case rest =>
     clear HC20
     try clear c1
     try clear c2
     try clear p2
     try clear c8
     try clear c11
     try clear c11b0
     try clear c11b1
     try clear c14
     try clear c15
     try clear c15b0
     try clear c15b1
     try clear c23
     try clear c25
     try clear c25b0
     try clear c25b1
     try clear c27
     try clear c28
     try clear c28b0
     try clear c28b1
     try clear p2
     obtain ⟨kq, x65_19, rfl, HA, HJ19, HO_7, BK473, HB⟩ := hcut
     cases kq with
     | zero => exact absurd HA.out (by simp [comfitlaw06_TagsFewer.j1])
     | succ kj19 =>
      have H := HA.out
      clear HA
      simp only [comfitlaw06_TagsFewer.j1] at H
      by_cases c37 : x65_19 = true
      ·subst c37
       have H1 : (none) = some r := by rw [if_pos rfl] at H; exact H
       clear H
       have H := H1
       clear H1
       exact absurd H (by simp)
      ·replace c37 := Bool.eq_false_iff.mpr c37
       subst c37
       have H1 : ((comfitlaw06_Of.f kj19 l0).bind fun t495 => ((tags_Go.f kj19 t495 a1_0 a1_1 a2).bind fun bt498 => ((tags_Order_28.f t477).bind fun t504 => ((tags_Go.f kj19 t504 a1_0 a1_1 a2).bind fun bt507 => (if bt498.2.2.2.2 = 0 then (comfitlaw06_TagsFewer.j2 kj19 l0 t477 bt498.2.2.2.2 bt507.2.2.2.2 bt498.1 bt498.2.2.2.1 bt507.1 bt507.2.2.2.1 (bt507.2.2.2.2 != 0) a1_0 a1_1 bt498.2.1 bt498.2.2.1 bt507.2.1 bt507.2.2.1) else (comfitlaw06_TagsFewer.j2 kj19 l0 t477 bt498.2.2.2.2 bt507.2.2.2.2 bt498.1 bt498.2.2.2.1 bt507.1 bt507.2.2.2.1 true a1_0 a1_1 bt498.2.1 bt498.2.2.1 bt507.2.1 bt507.2.2.1)))))) = some r := by rw [if_neg (show ¬ (false = true) by decide)] at H; exact H
       clear H
       have H := H1
       clear H1
       replace H := Option.bind_eq_some_iff.mp H
       obtain ⟨t495, A380, H⟩ := H
       replace H : ((tags_Go.f kj19 t495 a1_0 a1_1 a2).bind fun bt498 => ((tags_Order_28.f t477).bind fun t504 => ((tags_Go.f kj19 t504 a1_0 a1_1 a2).bind fun bt507 => (if bt498.2.2.2.2 = 0 then (comfitlaw06_TagsFewer.j2 kj19 l0 t477 bt498.2.2.2.2 bt507.2.2.2.2 bt498.1 bt498.2.2.2.1 bt507.1 bt507.2.2.2.1 (bt507.2.2.2.2 != 0) a1_0 a1_1 bt498.2.1 bt498.2.2.1 bt507.2.1 bt507.2.2.1) else (comfitlaw06_TagsFewer.j2 kj19 l0 t477 bt498.2.2.2.2 bt507.2.2.2.2 bt498.1 bt498.2.2.2.1 bt507.1 bt507.2.2.2.1 true a1_0 a1_1 bt498.2.1 bt498.2.2.1 bt507.2.1 bt507.2.2.1))))) = some r := H
       have A38 := Aside0.mk A380
       clear A380
       replace H := Option.bind_eq_some_iff.mp H
       obtain ⟨⟨t498, t499, t500, t501, t502⟩, A390, H⟩ := H
       replace H : ((tags_Order_28.f t477).bind fun t504 => ((tags_Go.f kj19 t504 a1_0 a1_1 a2).bind fun bt507 => (if t502 = 0 then (comfitlaw06_TagsFewer.j2 kj19 l0 t477 t502 bt507.2.2.2.2 t498 t501 bt507.1 bt507.2.2.2.1 (bt507.2.2.2.2 != 0) a1_0 a1_1 t499 t500 bt507.2.1 bt507.2.2.1) else (comfitlaw06_TagsFewer.j2 kj19 l0 t477 t502 bt507.2.2.2.2 t498 t501 bt507.1 bt507.2.2.2.1 true a1_0 a1_1 t499 t500 bt507.2.1 bt507.2.2.1)))) = some r := H
       have A39 := Aside0.mk A390
       clear A390
       replace H := Option.bind_eq_some_iff.mp H
       obtain ⟨t504, A400, H⟩ := H
       replace H : ((tags_Go.f kj19 t504 a1_0 a1_1 a2).bind fun bt507 => (if t502 = 0 then (comfitlaw06_TagsFewer.j2 kj19 l0 t477 t502 bt507.2.2.2.2 t498 t501 bt507.1 bt507.2.2.2.1 (bt507.2.2.2.2 != 0) a1_0 a1_1 t499 t500 bt507.2.1 bt507.2.2.1) else (comfitlaw06_TagsFewer.j2 kj19 l0 t477 t502 bt507.2.2.2.2 t498 t501 bt507.1 bt507.2.2.2.1 true a1_0 a1_1 t499 t500 bt507.2.1 bt507.2.2.1))) = some r := H
       have A40 := Aside0.mk A400
       clear A400
       replace H := Option.bind_eq_some_iff.mp H
       obtain ⟨⟨t507, t508, t509, t510, t511⟩, A410, H⟩ := H
       replace H : (if t502 = 0 then (comfitlaw06_TagsFewer.j2 kj19 l0 t477 t502 t511 t498 t501 t507 t510 (t511 != 0) a1_0 a1_1 t499 t500 t508 t509) else (comfitlaw06_TagsFewer.j2 kj19 l0 t477 t502 t511 t498 t501 t507 t510 true a1_0 a1_1 t499 t500 t508 t509)) = some r := H
       have A41 := Aside0.mk A410
       clear A410
       have HC42 := Aside0.mk H
       clear H
       try go_wp2
       have n0_ := Aside0.mk (Kd.R_drew HO_7.out)
       have n1_ := Aside0.mk (blk_drew BK473.out)
       have n2_ := Aside0.mk (below_drew1 HB.out)
       clear HO_7
       clear BK473
       clear HB
       have HO_7 := n0_
       have BK473 := n1_
       have HB := n2_
       clear n0_ n1_ n2_
       refine start_ (n := 15) (S := fun w' => w'.cell? ⟨gb473, 0, none⟩ = some (.int .i64 a1_0) ∧ w'.cell? ⟨gb473, 1, none⟩ = some (.int .i64 a1_1)) (ds := []) #[false, false, false, false, false, false, false, false, false, false, false, false, false, false, false] (by kernel_rfl) rfl rfl ⟨(blk_cell BK473.out 0).trans rfl, (blk_cell BK473.out 1).trans rfl⟩ (fun hHeld => ?_); refine with_tabW comfitlaw06_TagsFewer.tab7 comfitlaw06_TagsFewer.bits7 (fun HT_ HW_ => ?_)
       generalize wc.drew = w43 at HO_7 BK473 HB hHeld ⊢
       refine pure_ (i := 0) (N := some 67) (v := ?_) (a' := ?_) #[true, false, false, false, false, false, false, false, false, false, false, false, false, false, false] rfl rfl (any_of HT_.out (by kernel_rfl)) (fun _ _ _ h => h) (Or.inl ⟨by rfl, ?_⟩) ?_ ?_
       rotate_left
       ·intro w'
        go_simp
        with_reducible rfl
       rotate_left
       ·simp only [Act.put, List.setIfInBounds_toArray, List.set_cons_zero, List.set_cons_succ, i64_w, i32_w]
        rfl
       refine pure_ (i := 3) (N := some 70) (v := ?_) (a' := ?_) #[true, false, false, true, false, false, false, false, false, false, false, false, false, false, false] rfl rfl (any_of HT_.out (by kernel_rfl)) (fun _ _ _ h => h) (Or.inl ⟨by rfl, ?_⟩) ?_ ?_
       rotate_left
       ·intro w'
        go_simp
        with_reducible rfl
       rotate_left
       ·simp only [Act.put, List.setIfInBounds_toArray, List.set_cons_zero, List.set_cons_succ, i64_w, i32_w]
        rfl
       refine take_ (i := 2) (N := some 69) (v := ?_) (a' := ?_) #[true, false, true, true, false, false, false, false, false, false, false, false, false, false, false] rfl rfl (take_ofW HT_.out HW_.out (by kernel_rfl)) (fun _ _ _ h => h) (Or.inl ⟨by rfl, ?_⟩) hHeld ?_ ?_
       rotate_left
       ·rintro w' ⟨s0, s1⟩
        go_simp
        with_reducible rfl
       rotate_left
       ·simp only [Act.put, List.setIfInBounds_toArray, List.set_cons_zero, List.set_cons_succ, i64_w, i32_w]
        rfl
       refine join_ (σ := Value × Nat) 4 #[true, true, true, true, true, true, true, true, true, true, true, false, false, false, false] (fun s_ => [(68, s_.1), (71, .tuple #[.int .i64 t498, .agg #[.int .i64 t499, .int .i64 t500], .int .i64 t501, .int .i64 t502]), (12, .pointer (some ⟨s_.2, 0, none⟩)), (66, .tuple #[.int .i64 t498, .agg #[.int .i64 t499, .int .i64 t500], .int .i64 t501, .int .i64 t502]), (72, .int .i64 t498), (73, .agg #[.int .i64 t499, .int .i64 t500]), (74, .int .i64 t501), (75, .int .i64 t502)]) (fun s_ w' => (w'.cell? ⟨gb473, 0, none⟩ = some (.int .i64 a1_0) ∧ w'.cell? ⟨gb473, 1, none⟩ = some (.int .i64 a1_1)) ∧ (Kd.R k57 57 w' w.heap.size (fun k_ => some k_ ≠ (.slice Ao21 t477.length co21 : Value).ownBlock) s_.1 t495) ∧ (Kd.R k57 57 w' w.heap.size (fun k_ => some k_ ≠ (s_.1 : Value).ownBlock) (.slice Ao21 t477.length co21) t477) ∧ (w'.heap[gb473]? = some (.cells #[.int .i64 a1_0, .int .i64 a1_1] 23 (0, 0))) ∧ (w'.heap[s_.2]? = some (.cells #[.int .i64 0, .int .i64 0] 23 (0, 0))) ∧ (w.heap.size ≤ s_.2) ∧ (w.heap.size ≤ s_.2) ∧ (gb473 ≠ s_.2) ∧ (s_.2 ≠ gb473) ∧ (Below w.heap.size w w')) ?_ ?_
       rotate_left
       ·intro hCont
        refine two_ (i := 1) (j := 10) (Ni := some 68) (Nj := some 12) #[true, true, true, true, false, false, false, false, false, false, false, false, false, false, false] #[true, false, true, true, false, false, false, false, false, false, true, false, false, false, false] rfl rfl rfl rfl (two_of HT_.out (by kernel_rfl)) (by decide) (by decide) (fun K hK => ?_) (fun K hK => ?_)
        ·skip
         refine goes_ Try.func11 (by kernel_rfl) rfl #[.slice A0 l0.length c0] (by rfl) rfl rfl al_ ?_
         with_reducible refine (comfitlaw06_Of.calls kj19 _ _ l0 t495 _ ?side1 ?side2 A38.out).mono ?_
         (case side1 => exact kc_ (Kd.C_below HR0.out HB.out))
         (case side2 => exact HC0.out)
         rintro e w44 ⟨v496, rfl, ho0, hb⟩
         refine ⟨_, rfl, ?_⟩
         have n0_ := Aside0.mk (Kd.R_elder' (kr_ (HO_7.out)) (Kd.R_base ho0) hb)
         have n1_ := Aside0.mk (Kd.R_lower (Kd.R_new' ho0 (Kd.R_lt (kr_ (HO_7.out)))) (below_size (hb_ HB.out)))
         have n2_ := Aside0.mk (bkb_ BK473.out hb)
         have n3_ := Aside0.mk (below_step (hb_ HB.out) hb)
         clear HO_7
         clear BK473
         clear HB
         have HO_7 := n0_
         have HO497 := n1_
         have BK473 := n2_
         have HB := n3_
         clear n0_ n1_ n2_ n3_
         (try clear hb)
         (try clear hb2)
         (try clear hk)
         (try clear hi)
         (try clear ho0)
         obtain ⟨Ao45, co45, eo45⟩ := Kd.R_slice HO497.out
         (first | subst eo45 | (injection eo45 with f1_ f2_ f3_; have f4_ := f1_.symm; have f5_ := f3_.symm; clear f1_ f2_ f3_; subst f4_; subst f5_))
         refine hK.out _ _ ⟨(blk_cell BK473.out 0).trans rfl, (blk_cell BK473.out 1).trans rfl⟩ (fun hHeld => ?_)
         clear hK K
         refine norm_ (a' := ?_) ?_ ?_
         rotate_left
         ·show Act.put _ (some 68) _ = _
          simp only [Act.put, List.setIfInBounds_toArray, List.set_cons_zero, List.set_cons_succ, i64_w, i32_w]
          rfl
         refine two_ (i := 4) (j := 10) (Ni := some 71) (Nj := some 12) #[true, true, true, true, true, false, false, false, false, false, false, false, false, false, false] #[true, true, true, true, false, false, false, false, false, false, true, false, false, false, false] rfl rfl rfl rfl (two_of HT_.out (by kernel_rfl)) (by decide) (by decide) (fun K hK => ?_) (fun K hK => ?_)
         ·skip
          refine goes_ Try.func10 (by kernel_rfl) rfl #[.slice Ao45 t495.length co45, .agg #[.int .i64 a1_0, .int .i64 a1_1], .int .i64 a2] (by rfl) rfl rfl al_ ?_
          with_reducible refine (tags_Go.calls kj19 _ _ t495 a1_0 a1_1 a2 t498 t499 t500 t501 t502 _ ?side1 ?side2 A39.out).mono ?_
          (case side1 => exact kc_ (Kd.R_reads' HO497.out).2.2)
          (case side2 => exact (Kd.R_reads' HO497.out).2.1)
          rintro e w46 ⟨rfl, hb⟩
          refine ⟨_, rfl, ?_⟩
          have n0_ := Aside0.mk (Kd.R_below (kr_ (HO_7.out)) hb)
          have n1_ := Aside0.mk (Kd.R_below (kr_ (HO497.out)) hb)
          have n2_ := Aside0.mk (bkb_ BK473.out hb)
          have n3_ := Aside0.mk (below_step (hb_ HB.out) hb)
          clear HO_7
          clear HO497
          clear BK473
          clear HB
          have HO_7 := n0_
          have HO497 := n1_
          have BK473 := n2_
          have HB := n3_
          clear n0_ n1_ n2_ n3_
          (try clear hb)
          (try clear hb2)
          (try clear hk)
          (try clear hi)
          refine hK.out _ _ ⟨(blk_cell BK473.out 0).trans rfl, (blk_cell BK473.out 1).trans rfl⟩ (fun hHeld => ?_)
          clear hK K
          refine norm_ (a' := ?_) ?_ ?_
          rotate_left
          ·show Act.put _ (some 71) _ = _
           simp only [Act.put, List.setIfInBounds_toArray, List.set_cons_zero, List.set_cons_succ, i64_w, i32_w]
           rfl
          refine pure_ (i := 5) (N := some 66) (v := ?_) (a' := ?_) #[true, true, true, true, true, true, false, false, false, false, false, false, false, false, false] rfl rfl (any_of HT_.out (by kernel_rfl)) (fun _ _ _ h => h) (Or.inl ⟨by rfl, ?_⟩) ?_ ?_
          rotate_left
          ·intro w'
           go_simp
           with_reducible rfl
          rotate_left
          ·simp only [Act.put, List.setIfInBounds_toArray, List.set_cons_zero, List.set_cons_succ, i64_w, i32_w]
           rfl
          refine pure_ (i := 6) (N := some 72) (v := ?_) (a' := ?_) #[true, true, true, true, true, true, true, false, false, false, false, false, false, false, false] rfl rfl (any_of HT_.out (by kernel_rfl)) (fun _ _ _ h => h) (Or.inl ⟨by rfl, ?_⟩) ?_ ?_
          rotate_left
          ·intro w'
           go_simp
           with_reducible rfl
          rotate_left
          ·simp only [Act.put, List.setIfInBounds_toArray, List.set_cons_zero, List.set_cons_succ, i64_w, i32_w]
           rfl
          refine pure_ (i := 7) (N := some 73) (v := ?_) (a' := ?_) #[true, true, true, true, true, true, true, true, false, false, false, false, false, false, false] rfl rfl (any_of HT_.out (by kernel_rfl)) (fun _ _ _ h => h) (Or.inl ⟨by rfl, ?_⟩) ?_ ?_
          rotate_left
          ·intro w'
           go_simp
           with_reducible rfl
          rotate_left
          ·simp only [Act.put, List.setIfInBounds_toArray, List.set_cons_zero, List.set_cons_succ, i64_w, i32_w]
           rfl
          refine pure_ (i := 8) (N := some 74) (v := ?_) (a' := ?_) #[true, true, true, true, true, true, true, true, true, false, false, false, false, false, false] rfl rfl (any_of HT_.out (by kernel_rfl)) (fun _ _ _ h => h) (Or.inl ⟨by rfl, ?_⟩) ?_ ?_
          rotate_left
          ·intro w'
           go_simp
           with_reducible rfl
          rotate_left
          ·simp only [Act.put, List.setIfInBounds_toArray, List.set_cons_zero, List.set_cons_succ, i64_w, i32_w]
           rfl
          refine pure_ (i := 9) (N := some 75) (v := ?_) (a' := ?_) #[true, true, true, true, true, true, true, true, true, true, false, false, false, false, false] rfl rfl (any_of HT_.out (by kernel_rfl)) (fun _ _ _ h => h) (Or.inl ⟨by rfl, ?_⟩) ?_ ?_
          rotate_left
          ·intro w'
           go_simp
           with_reducible rfl
          rotate_left
          ·simp only [Act.put, List.setIfInBounds_toArray, List.set_cons_zero, List.set_cons_succ, i64_w, i32_w]
           rfl
          refine one_ (i := 10) (N := some 12) #[true, true, true, true, true, true, true, true, true, true, true, false, false, false, false] rfl rfl (one_of HT_.out (by kernel_rfl)) (by decide) (fun K hK => ?_)
          refine box_step ?hg (N := 12) ?hd (cs := #[.int .i64 0, .int .i64 0]) (t := 23) ?hr ?_; (case hd => rfl); (case hg => rfl); (case hr => first | (go_simp; done) | (go_simp; rfl))
          intro gb503 hg w47 hbox hb
          have n0_ := Aside0.mk (Kd.R_below (kr_ (HO_7.out)) hb)
          have n1_ := Aside0.mk (Kd.R_below (kr_ (HO497.out)) hb)
          have n2_ := Aside0.mk (bkb_ BK473.out hb)
          have n3_ := Aside0.mk (below_step (hb_ HB.out) hb)
          have n4_ := Aside0.mk (hbox)
          have n5_ := Aside0.mk ((by rw [hg]; exact (below_size (hb_ HB.out)) : w.heap.size ≤ gb503))
          have n6_ := Aside0.mk ((by rw [hg]; exact (below_size (hb_ HB.out)) : w.heap.size ≤ gb503))
          have n7_ := Aside0.mk ((by rw [hg]; exact Nat.ne_of_lt (bkl_ BK473.out) : gb473 ≠ gb503))
          have n8_ := Aside0.mk ((by rw [hg]; exact Nat.ne_of_gt (bkl_ BK473.out) : gb503 ≠ gb473))
          clear HO_7
          clear HO497
          clear BK473
          clear HB
          have HO_7 := n0_
          have HO497 := n1_
          have BK473 := n2_
          have HB := n3_
          have BK503 := n4_
          have GW503 := n5_
          have GE503 := n6_
          have NB473_503 := n7_
          have NB503_473 := n8_
          clear n0_ n1_ n2_ n3_ n4_ n5_ n6_ n7_ n8_
          clear hb hbox hg
          refine hK.out _ _ ⟨(blk_cell BK473.out 0).trans rfl, (blk_cell BK473.out 1).trans rfl⟩ (fun hHeld => ?_)
          clear hK K
          refine norm_ (a' := ?_) ?_ ?_
          rotate_left
          ·show Act.put _ (some 12) _ = _
           simp only [Act.put, List.setIfInBounds_toArray, List.set_cons_zero, List.set_cons_succ, i64_w, i32_w]
           rfl
          exact norm_ (by simp only [putAll, Act.put, List.setIfInBounds_toArray, List.set_cons_zero, List.set_cons_succ]) (hCont (.slice Ao45 t495.length co45, gb503) _ ⟨hHeld, (by (with_reducible repeat (first | apply Kd.R_alloc | apply Kd.R_drewN | apply Kd.R_drew)); exact Kd.R_mono HO497.out (fun _ hk => hk.2)), (by (with_reducible repeat (first | apply Kd.R_alloc | apply Kd.R_drewN | apply Kd.R_drew)); exact Kd.R_mono HO_7.out (fun _ hk => hk.2)), (bk_ BK473.out), (bk_ BK503.out), GW503.out, GE503.out, NB473_503.out, NB503_473.out, (hb_ HB.out)⟩)
         ·skip
          refine box_step ?hg (N := 12) ?hd (cs := #[.int .i64 0, .int .i64 0]) (t := 23) ?hr ?_; (case hd => rfl); (case hg => rfl); (case hr => first | (go_simp; done) | (go_simp; rfl))
          intro gb503 hg w45 hbox hb
          have n0_ := Aside0.mk (Kd.R_below (kr_ (HO_7.out)) hb)
          have n1_ := Aside0.mk (Kd.R_below (kr_ (HO497.out)) hb)
          have n2_ := Aside0.mk (bkb_ BK473.out hb)
          have n3_ := Aside0.mk (below_step (hb_ HB.out) hb)
          have n4_ := Aside0.mk (hbox)
          have n5_ := Aside0.mk ((by rw [hg]; exact (below_size (hb_ HB.out)) : w.heap.size ≤ gb503))
          have n6_ := Aside0.mk ((by rw [hg]; exact (below_size (hb_ HB.out)) : w.heap.size ≤ gb503))
          have n7_ := Aside0.mk ((by rw [hg]; exact Nat.ne_of_lt (bkl_ BK473.out) : gb473 ≠ gb503))
          have n8_ := Aside0.mk ((by rw [hg]; exact Nat.ne_of_gt (bkl_ BK473.out) : gb503 ≠ gb473))
          clear HO_7
          clear HO497
          clear BK473
          clear HB
          have HO_7 := n0_
          have HO497 := n1_
          have BK473 := n2_
          have HB := n3_
          have BK503 := n4_
          have GW503 := n5_
          have GE503 := n6_
          have NB473_503 := n7_
          have NB503_473 := n8_
          clear n0_ n1_ n2_ n3_ n4_ n5_ n6_ n7_ n8_
          clear hb hbox hg
          obtain ⟨Ao46, co46, eo46⟩ := Kd.R_slice HO497.out
          (first | subst eo46 | (injection eo46 with f1_ f2_ f3_; have f4_ := f1_.symm; have f5_ := f3_.symm; clear f1_ f2_ f3_; subst f4_; subst f5_))
          refine hK.out _ _ ⟨(blk_cell BK473.out 0).trans rfl, (blk_cell BK473.out 1).trans rfl⟩ (fun hHeld => ?_)
          clear hK K
          refine norm_ (a' := ?_) ?_ ?_
          rotate_left
          ·show Act.put _ (some 12) _ = _
           simp only [Act.put, List.setIfInBounds_toArray, List.set_cons_zero, List.set_cons_succ, i64_w, i32_w]
           rfl
          refine one_ (i := 4) (N := some 71) #[true, true, true, true, true, false, false, false, false, false, true, false, false, false, false] rfl rfl (one_of HT_.out (by kernel_rfl)) (by decide) (fun K hK => ?_)
          refine goes_ Try.func10 (by kernel_rfl) rfl #[.slice Ao46 t495.length co46, .agg #[.int .i64 a1_0, .int .i64 a1_1], .int .i64 a2] (by rfl) rfl rfl al_ ?_
          with_reducible refine (tags_Go.calls kj19 _ _ t495 a1_0 a1_1 a2 t498 t499 t500 t501 t502 _ ?side1 ?side2 A39.out).mono ?_
          (case side1 => exact kc_ (Kd.R_reads' HO497.out).2.2)
          (case side2 => exact (Kd.R_reads' HO497.out).2.1)
          rintro e w47 ⟨rfl, hb⟩
          refine ⟨_, rfl, ?_⟩
          have n0_ := Aside0.mk (Kd.R_below (kr_ (HO_7.out)) hb)
          have n1_ := Aside0.mk (Kd.R_below (kr_ (HO497.out)) hb)
          have n2_ := Aside0.mk (bkb_ BK473.out hb)
          have n3_ := Aside0.mk (bkb_ BK503.out hb)
          have n4_ := Aside0.mk (below_step (hb_ HB.out) hb)
          clear HO_7
          clear HO497
          clear BK473
          clear BK503
          clear HB
          have HO_7 := n0_
          have HO497 := n1_
          have BK473 := n2_
          have BK503 := n3_
          have HB := n4_
          clear n0_ n1_ n2_ n3_ n4_
          (try clear hb)
          (try clear hb2)
          (try clear hk)
          (try clear hi)
          refine hK.out _ _ ⟨(blk_cell BK473.out 0).trans rfl, (blk_cell BK473.out 1).trans rfl⟩ (fun hHeld => ?_)
          clear hK K
          refine norm_ (a' := ?_) ?_ ?_
          rotate_left
          ·show Act.put _ (some 71) _ = _
           simp only [Act.put, List.setIfInBounds_toArray, List.set_cons_zero, List.set_cons_succ, i64_w, i32_w]
           rfl
          refine pure_ (i := 5) (N := some 66) (v := ?_) (a' := ?_) #[true, true, true, true, true, true, false, false, false, false, true, false, false, false, false] rfl rfl (any_of HT_.out (by kernel_rfl)) (fun _ _ _ h => h) (Or.inl ⟨by rfl, ?_⟩) ?_ ?_
          rotate_left
          ·intro w'
           go_simp
           with_reducible rfl
          rotate_left
          ·simp only [Act.put, List.setIfInBounds_toArray, List.set_cons_zero, List.set_cons_succ, i64_w, i32_w]
           rfl
          refine pure_ (i := 6) (N := some 72) (v := ?_) (a' := ?_) #[true, true, true, true, true, true, true, false, false, false, true, false, false, false, false] rfl rfl (any_of HT_.out (by kernel_rfl)) (fun _ _ _ h => h) (Or.inl ⟨by rfl, ?_⟩) ?_ ?_
          rotate_left
          ·intro w'
           go_simp
           with_reducible rfl
          rotate_left
          ·simp only [Act.put, List.setIfInBounds_toArray, List.set_cons_zero, List.set_cons_succ, i64_w, i32_w]
           rfl
          refine pure_ (i := 7) (N := some 73) (v := ?_) (a' := ?_) #[true, true, true, true, true, true, true, true, false, false, true, false, false, false, false] rfl rfl (any_of HT_.out (by kernel_rfl)) (fun _ _ _ h => h) (Or.inl ⟨by rfl, ?_⟩) ?_ ?_
          rotate_left
          ·intro w'
           go_simp
           with_reducible rfl
          rotate_left
          ·simp only [Act.put, List.setIfInBounds_toArray, List.set_cons_zero, List.set_cons_succ, i64_w, i32_w]
           rfl
          refine pure_ (i := 8) (N := some 74) (v := ?_) (a' := ?_) #[true, true, true, true, true, true, true, true, true, false, true, false, false, false, false] rfl rfl (any_of HT_.out (by kernel_rfl)) (fun _ _ _ h => h) (Or.inl ⟨by rfl, ?_⟩) ?_ ?_
          rotate_left
          ·intro w'
           go_simp
           with_reducible rfl
          rotate_left
          ·simp only [Act.put, List.setIfInBounds_toArray, List.set_cons_zero, List.set_cons_succ, i64_w, i32_w]
           rfl
          refine pure_ (i := 9) (N := some 75) (v := ?_) (a' := ?_) #[true, true, true, true, true, true, true, true, true, true, true, false, false, false, false] rfl rfl (any_of HT_.out (by kernel_rfl)) (fun _ _ _ h => h) (Or.inl ⟨by rfl, ?_⟩) ?_ ?_
          rotate_left
          ·intro w'
           go_simp
           with_reducible rfl
          rotate_left
          ·simp only [Act.put, List.setIfInBounds_toArray, List.set_cons_zero, List.set_cons_succ, i64_w, i32_w]
           rfl
          exact norm_ (by simp only [putAll, Act.put, List.setIfInBounds_toArray, List.set_cons_zero, List.set_cons_succ]) (hCont (.slice Ao46 t495.length co46, gb503) _ ⟨hHeld, (by (with_reducible repeat (first | apply Kd.R_alloc | apply Kd.R_drewN | apply Kd.R_drew)); exact Kd.R_mono HO497.out (fun _ hk => hk.2)), (by (with_reducible repeat (first | apply Kd.R_alloc | apply Kd.R_drewN | apply Kd.R_drew)); exact Kd.R_mono HO_7.out (fun _ hk => hk.2)), (bk_ BK473.out), (bk_ BK503.out), GW503.out, GE503.out, NB473_503.out, NB503_473.out, (hb_ HB.out)⟩)
        ·skip
         refine box_step ?hg (N := 12) ?hd (cs := #[.int .i64 0, .int .i64 0]) (t := 23) ?hr ?_; (case hd => rfl); (case hg => rfl); (case hr => first | (go_simp; done) | (go_simp; rfl))
         intro gb503 hg w44 hbox hb
         have n0_ := Aside0.mk (Kd.R_below (kr_ (HO_7.out)) hb)
         have n1_ := Aside0.mk (bkb_ BK473.out hb)
         have n2_ := Aside0.mk (below_step (hb_ HB.out) hb)
         have n3_ := Aside0.mk (hbox)
         have n4_ := Aside0.mk ((by rw [hg]; exact (below_size (hb_ HB.out)) : w.heap.size ≤ gb503))
         have n5_ := Aside0.mk ((by rw [hg]; exact (below_size (hb_ HB.out)) : w.heap.size ≤ gb503))
         have n6_ := Aside0.mk ((by rw [hg]; exact Nat.ne_of_lt (bkl_ BK473.out) : gb473 ≠ gb503))
         have n7_ := Aside0.mk ((by rw [hg]; exact Nat.ne_of_gt (bkl_ BK473.out) : gb503 ≠ gb473))
         clear HO_7
         clear BK473
         clear HB
         have HO_7 := n0_
         have BK473 := n1_
         have HB := n2_
         have BK503 := n3_
         have GW503 := n4_
         have GE503 := n5_
         have NB473_503 := n6_
         have NB503_473 := n7_
         clear n0_ n1_ n2_ n3_ n4_ n5_ n6_ n7_
         clear hb hbox hg
         refine hK.out _ _ ⟨(blk_cell BK473.out 0).trans rfl, (blk_cell BK473.out 1).trans rfl⟩ (fun hHeld => ?_)
         clear hK K
         refine norm_ (a' := ?_) ?_ ?_
         rotate_left
         ·show Act.put _ (some 12) _ = _
          simp only [Act.put, List.setIfInBounds_toArray, List.set_cons_zero, List.set_cons_succ, i64_w, i32_w]
          rfl
         refine one_ (i := 1) (N := some 68) #[true, true, true, true, false, false, false, false, false, false, true, false, false, false, false] rfl rfl (one_of HT_.out (by kernel_rfl)) (by decide) (fun K hK => ?_)
         refine goes_ Try.func11 (by kernel_rfl) rfl #[.slice A0 l0.length c0] (by rfl) rfl rfl al_ ?_
         with_reducible refine (comfitlaw06_Of.calls kj19 _ _ l0 t495 _ ?side1 ?side2 A38.out).mono ?_
         (case side1 => exact kc_ (Kd.C_below HR0.out HB.out))
         (case side2 => exact HC0.out)
         rintro e w45 ⟨v496, rfl, ho0, hb⟩
         refine ⟨_, rfl, ?_⟩
         have n0_ := Aside0.mk (Kd.R_elder' (kr_ (HO_7.out)) (Kd.R_base ho0) hb)
         have n1_ := Aside0.mk (Kd.R_lower (Kd.R_new' ho0 (Kd.R_lt (kr_ (HO_7.out)))) (below_size (hb_ HB.out)))
         have n2_ := Aside0.mk (bkb_ BK473.out hb)
         have n3_ := Aside0.mk (bkb_ BK503.out hb)
         have n4_ := Aside0.mk (below_step (hb_ HB.out) hb)
         clear HO_7
         clear BK473
         clear BK503
         clear HB
         have HO_7 := n0_
         have HO497 := n1_
         have BK473 := n2_
         have BK503 := n3_
         have HB := n4_
         clear n0_ n1_ n2_ n3_ n4_
         (try clear hb)
         (try clear hb2)
         (try clear hk)
         (try clear hi)
         (try clear ho0)
         obtain ⟨Ao46, co46, eo46⟩ := Kd.R_slice HO497.out
         (first | subst eo46 | (injection eo46 with f1_ f2_ f3_; have f4_ := f1_.symm; have f5_ := f3_.symm; clear f1_ f2_ f3_; subst f4_; subst f5_))
         refine hK.out _ _ ⟨(blk_cell BK473.out 0).trans rfl, (blk_cell BK473.out 1).trans rfl⟩ (fun hHeld => ?_)
         clear hK K
         refine norm_ (a' := ?_) ?_ ?_
         rotate_left
         ·show Act.put _ (some 68) _ = _
          simp only [Act.put, List.setIfInBounds_toArray, List.set_cons_zero, List.set_cons_succ, i64_w, i32_w]
          rfl
         refine one_ (i := 4) (N := some 71) #[true, true, true, true, true, false, false, false, false, false, true, false, false, false, false] rfl rfl (one_of HT_.out (by kernel_rfl)) (by decide) (fun K hK => ?_)
         refine goes_ Try.func10 (by kernel_rfl) rfl #[.slice Ao46 t495.length co46, .agg #[.int .i64 a1_0, .int .i64 a1_1], .int .i64 a2] (by rfl) rfl rfl al_ ?_
         with_reducible refine (tags_Go.calls kj19 _ _ t495 a1_0 a1_1 a2 t498 t499 t500 t501 t502 _ ?side1 ?side2 A39.out).mono ?_
         (case side1 => exact kc_ (Kd.R_reads' HO497.out).2.2)
         (case side2 => exact (Kd.R_reads' HO497.out).2.1)
         rintro e w47 ⟨rfl, hb⟩
         refine ⟨_, rfl, ?_⟩
         have n0_ := Aside0.mk (Kd.R_below (kr_ (HO_7.out)) hb)
         have n1_ := Aside0.mk (Kd.R_below (kr_ (HO497.out)) hb)
         have n2_ := Aside0.mk (bkb_ BK473.out hb)
         have n3_ := Aside0.mk (bkb_ BK503.out hb)
         have n4_ := Aside0.mk (below_step (hb_ HB.out) hb)
         clear HO_7
         clear HO497
         clear BK473
         clear BK503
         clear HB
         have HO_7 := n0_
         have HO497 := n1_
         have BK473 := n2_
         have BK503 := n3_
         have HB := n4_
         clear n0_ n1_ n2_ n3_ n4_
         (try clear hb)
         (try clear hb2)
         (try clear hk)
         (try clear hi)
         refine hK.out _ _ ⟨(blk_cell BK473.out 0).trans rfl, (blk_cell BK473.out 1).trans rfl⟩ (fun hHeld => ?_)
         clear hK K
         refine norm_ (a' := ?_) ?_ ?_
         rotate_left
         ·show Act.put _ (some 71) _ = _
          simp only [Act.put, List.setIfInBounds_toArray, List.set_cons_zero, List.set_cons_succ, i64_w, i32_w]
          rfl
         refine pure_ (i := 5) (N := some 66) (v := ?_) (a' := ?_) #[true, true, true, true, true, true, false, false, false, false, true, false, false, false, false] rfl rfl (any_of HT_.out (by kernel_rfl)) (fun _ _ _ h => h) (Or.inl ⟨by rfl, ?_⟩) ?_ ?_
         rotate_left
         ·intro w'
          go_simp
          with_reducible rfl
         rotate_left
         ·simp only [Act.put, List.setIfInBounds_toArray, List.set_cons_zero, List.set_cons_succ, i64_w, i32_w]
          rfl
         refine pure_ (i := 6) (N := some 72) (v := ?_) (a' := ?_) #[true, true, true, true, true, true, true, false, false, false, true, false, false, false, false] rfl rfl (any_of HT_.out (by kernel_rfl)) (fun _ _ _ h => h) (Or.inl ⟨by rfl, ?_⟩) ?_ ?_
         rotate_left
         ·intro w'
          go_simp
          with_reducible rfl
         rotate_left
         ·simp only [Act.put, List.setIfInBounds_toArray, List.set_cons_zero, List.set_cons_succ, i64_w, i32_w]
          rfl
         refine pure_ (i := 7) (N := some 73) (v := ?_) (a' := ?_) #[true, true, true, true, true, true, true, true, false, false, true, false, false, false, false] rfl rfl (any_of HT_.out (by kernel_rfl)) (fun _ _ _ h => h) (Or.inl ⟨by rfl, ?_⟩) ?_ ?_
         rotate_left
         ·intro w'
          go_simp
          with_reducible rfl
         rotate_left
         ·simp only [Act.put, List.setIfInBounds_toArray, List.set_cons_zero, List.set_cons_succ, i64_w, i32_w]
          rfl
         refine pure_ (i := 8) (N := some 74) (v := ?_) (a' := ?_) #[true, true, true, true, true, true, true, true, true, false, true, false, false, false, false] rfl rfl (any_of HT_.out (by kernel_rfl)) (fun _ _ _ h => h) (Or.inl ⟨by rfl, ?_⟩) ?_ ?_
         rotate_left
         ·intro w'
          go_simp
          with_reducible rfl
         rotate_left
         ·simp only [Act.put, List.setIfInBounds_toArray, List.set_cons_zero, List.set_cons_succ, i64_w, i32_w]
          rfl
         refine pure_ (i := 9) (N := some 75) (v := ?_) (a' := ?_) #[true, true, true, true, true, true, true, true, true, true, true, false, false, false, false] rfl rfl (any_of HT_.out (by kernel_rfl)) (fun _ _ _ h => h) (Or.inl ⟨by rfl, ?_⟩) ?_ ?_
         rotate_left
         ·intro w'
          go_simp
          with_reducible rfl
         rotate_left
         ·simp only [Act.put, List.setIfInBounds_toArray, List.set_cons_zero, List.set_cons_succ, i64_w, i32_w]
          rfl
         exact norm_ (by simp only [putAll, Act.put, List.setIfInBounds_toArray, List.set_cons_zero, List.set_cons_succ]) (hCont (.slice Ao46 t495.length co46, gb503) _ ⟨hHeld, (by (with_reducible repeat (first | apply Kd.R_alloc | apply Kd.R_drewN | apply Kd.R_drew)); exact Kd.R_mono HO497.out (fun _ hk => hk.2)), (by (with_reducible repeat (first | apply Kd.R_alloc | apply Kd.R_drewN | apply Kd.R_drew)); exact Kd.R_mono HO_7.out (fun _ hk => hk.2)), (bk_ BK473.out), (bk_ BK503.out), GW503.out, GE503.out, NB473_503.out, NB503_473.out, (hb_ HB.out)⟩)
       rintro ⟨v496, gb503⟩ w48 ⟨hS_, h0_, h1_, h2_, h3_, h4_, h5_, h6_, h7_, h8_⟩
       have n0_ : Aside0 (Kd.R k57 57 w48 w.heap.size (fun k_ => some k_ ≠ (.slice Ao21 t477.length co21 : Value).ownBlock) v496 t495) := ⟨h0_⟩
       have n1_ : Aside0 (Kd.R k57 57 w48 w.heap.size (fun k_ => some k_ ≠ (v496 : Value).ownBlock) (.slice Ao21 t477.length co21) t477) := ⟨h1_⟩
       have n2_ : Aside0 (w48.heap[gb473]? = some (.cells #[.int .i64 a1_0, .int .i64 a1_1] 23 (0, 0))) := ⟨h2_⟩
       have n3_ : Aside0 (w48.heap[gb503]? = some (.cells #[.int .i64 0, .int .i64 0] 23 (0, 0))) := ⟨h3_⟩
       have n4_ : Aside0 (w.heap.size ≤ gb503) := ⟨h4_⟩
       have n5_ : Aside0 (w.heap.size ≤ gb503) := ⟨h5_⟩
       have n6_ : Aside0 (gb473 ≠ gb503) := ⟨h6_⟩
       have n7_ : Aside0 (gb503 ≠ gb473) := ⟨h7_⟩
       have n8_ : Aside0 (Below w.heap.size w w48) := ⟨h8_⟩
       clear HO_7
       clear BK473
       clear HB
       clear h0_ h1_ h2_ h3_ h4_ h5_ h6_ h7_ h8_
       have HO497 := n0_
       have HO_7 := n1_
       have BK473 := n2_
       have BK503 := n3_
       have GW503 := n4_
       have GE503 := n5_
       have NB473_503 := n6_
       have NB503_473 := n7_
       have HB := n8_
       clear n0_ n1_ n2_ n3_ n4_ n5_ n6_ n7_ n8_
       have hHeld : w48.cell? ⟨gb473, 0, none⟩ = some (.int .i64 a1_0) ∧ w48.cell? ⟨gb473, 1, none⟩ = some (.int .i64 a1_1) := hS_
       refine norm_ (a' := ?_) ?_ ?_
       rotate_left
       ·simp only [putAll, Act.put, List.setIfInBounds_toArray, List.set_cons_zero, List.set_cons_succ]
        rfl
       refine pure_ (i := 11) (N := some 11) (v := ?_) (a' := ?_) #[true, true, true, true, true, true, true, true, true, true, true, true, false, false, false] rfl rfl (any_of HT_.out (by kernel_rfl)) (fun _ _ _ h => h) (Or.inl ⟨by rfl, ?_⟩) ?_ ?_
       rotate_left
       ·intro w'
        go_simp
        with_reducible rfl
       rotate_left
       ·simp only [Act.put, List.setIfInBounds_toArray, List.set_cons_zero, List.set_cons_succ, i64_w, i32_w]
        rfl
       refine one_ (i := 12) (N := none) #[true, true, true, true, true, true, true, true, true, true, true, true, true, false, false] rfl rfl (one_of HT_.out (by kernel_rfl)) (by decide) (fun K hK => ?_)
       have hs49 : w48.cell? ⟨gb503, 0, none⟩ = some (.int .i64 0) := (blk_cell BK503.out 0).trans rfl
       have hfs49 := blk_frozen BK503.out 0
       have hns49_0 := NB473_503.out
       have hms49_0 := NB503_473.out
       have hs50 : w48.cell? ⟨gb503, 1, none⟩ = some (.int .i64 0) := (blk_cell BK503.out 1).trans rfl
       have hfs50 := blk_frozen BK503.out 1
       have hns50_0 := NB473_503.out
       have hms50_0 := NB503_473.out
       refine skip_ (w1 := ?_) (by rfl) rfl ?_ ?_
       rotate_left
       ·go_simp
        rfl
       refine hK.out _ _ ⟨((cell_far (p := ⟨gb503, _, none⟩) NB473_503.out _).trans (((cell_far (p := ⟨gb503, _, none⟩) NB473_503.out _).trans (hHeld.1)))), ((cell_far (p := ⟨gb503, _, none⟩) NB473_503.out _).trans (((cell_far (p := ⟨gb503, _, none⟩) NB473_503.out _).trans (hHeld.2))))⟩ (fun hHeld => ?_)
       clear hK K
       refine pure_ (i := 13) (N := some 13) (v := ?_) (a' := ?_) #[true, true, true, true, true, true, true, true, true, true, true, true, true, true, false] rfl rfl (any_of HT_.out (by kernel_rfl)) (fun _ _ _ h => h) (Or.inl ⟨by rfl, ?_⟩) ?_ ?_
       rotate_left
       ·intro w'
        go_simp
        with_reducible rfl
       rotate_left
       ·simp only [Act.put, List.setIfInBounds_toArray, List.set_cons_zero, List.set_cons_succ, i64_w, i32_w]
        rfl
       refine pure_ (i := 14) (N := some 8) (v := ?_) (a' := ?_) #[true, true, true, true, true, true, true, true, true, true, true, true, true, true, true] rfl rfl (any_of HT_.out (by kernel_rfl)) (fun _ _ _ h => h) (Or.inl ⟨by rfl, ?_⟩) ?_ ?_
       rotate_left
       ·intro w'
        go_simp
        with_reducible rfl
       rotate_left
       ·simp only [Act.put, List.setIfInBounds_toArray, List.set_cons_zero, List.set_cons_succ, i64_w, i32_w]
        rfl
       refine done_ (done_of HT_.out (by kernel_rfl)) ?_
       try go_wp2
       have n0_ : Aside0 (Kd.R k57 57 ((w48.setCell ⟨gb503, 0, none⟩ (.int .i64 t499)).setCell ⟨gb503, 1, none⟩ (.int .i64 t500)) w.heap.size (fun k_ => some k_ ≠ (v496 : Value).ownBlock) (.slice Ao21 t477.length co21) t477) := ⟨by (with_reducible repeat (first | apply Kd.R_alloc | apply Kd.R_drewN | apply Kd.R_drew)); exact Kd.R_mono (Kd.R_far (p := ⟨gb503, 1, none⟩) (Kd.R_far (p := ⟨gb503, 0, none⟩) (Kd.R_types HO_7.out BK503.out (by decide)) (fun _ hk => hk.2) (.int .i64 t499)) (fun _ hk => hk.2) (.int .i64 t500)) (fun _ hk => hk.1)⟩
       have n1_ : Aside0 (Kd.R k57 57 ((w48.setCell ⟨gb503, 0, none⟩ (.int .i64 t499)).setCell ⟨gb503, 1, none⟩ (.int .i64 t500)) w.heap.size (fun k_ => some k_ ≠ (.slice Ao21 t477.length co21 : Value).ownBlock) v496 t495) := ⟨by (with_reducible repeat (first | apply Kd.R_alloc | apply Kd.R_drewN | apply Kd.R_drew)); exact Kd.R_mono (Kd.R_far (p := ⟨gb503, 1, none⟩) (Kd.R_far (p := ⟨gb503, 0, none⟩) (Kd.R_types HO497.out BK503.out (by decide)) (fun _ hk => hk.2) (.int .i64 t499)) (fun _ hk => hk.2) (.int .i64 t500)) (fun _ hk => hk.1)⟩
       have n2_ : Aside0 (((w48.setCell ⟨gb503, 0, none⟩ (.int .i64 t499)).setCell ⟨gb503, 1, none⟩ (.int .i64 t500)).heap[gb473]? = some (.cells #[.int .i64 a1_0, .int .i64 a1_1] 23 (0, 0))) := ⟨by (with_reducible repeat (first | refine blk_drewN ?_ _ | refine blk_drew ?_ | refine blk_alloc ?_ _)); refine blk_far ?_ NB473_503.out _; (with_reducible repeat (first | refine blk_drewN ?_ _ | refine blk_drew ?_ | refine blk_alloc ?_ _)); refine blk_far ?_ NB473_503.out _; (with_reducible repeat (first | refine blk_drewN ?_ _ | refine blk_drew ?_ | refine blk_alloc ?_ _)); exact BK473.out⟩
       have n3_ : Aside0 (((w48.setCell ⟨gb503, 0, none⟩ (.int .i64 t499)).setCell ⟨gb503, 1, none⟩ (.int .i64 t500)).heap[gb503]? = some (.cells #[.int .i64 t499, .int .i64 t500] 23 (0, 0))) := ⟨by (with_reducible repeat (first | refine blk_drewN ?_ _ | refine blk_drew ?_ | refine blk_alloc ?_ _)); refine blk_put (cs := #[.int .i64 t499, .int .i64 0]) ?_ 1 _ rfl; (with_reducible repeat (first | refine blk_drewN ?_ _ | refine blk_drew ?_ | refine blk_alloc ?_ _)); refine blk_put (cs := #[.int .i64 0, .int .i64 0]) ?_ 0 _ rfl; (with_reducible repeat (first | refine blk_drewN ?_ _ | refine blk_drew ?_ | refine blk_alloc ?_ _)); exact BK503.out⟩
       have n4_ : Aside0 (Below w.heap.size w ((w48.setCell ⟨gb503, 0, none⟩ (.int .i64 t499)).setCell ⟨gb503, 1, none⟩ (.int .i64 t500))) := ⟨by repeat (first | (with_reducible first | exact HB.out | apply below_alloc | apply pw_below_drewN | apply below_drew1 | refine below_set ?_ GE473.out | refine below_set ?_ GE503.out) | exact HB.out)⟩
       (try clear HO_7)
       (try clear HO497)
       (try clear BK473)
       (try clear BK503)
       (try clear HB)
       generalize ((w48.setCell ⟨gb503, 0, none⟩ (.int .i64 t499)).setCell ⟨gb503, 1, none⟩ (.int .i64 t500)) = w51 at n0_ n1_ n2_ n3_ n4_ ⊢
       have HO_7 := n0_
       have HO497 := n1_
       have BK473 := n2_
       have BK503 := n3_
       have HB := n4_
       clear n0_ n1_ n2_ n3_ n4_
       have n0_ := Aside0.mk (Kd.R_drew HO_7.out)
       have n1_ := Aside0.mk (Kd.R_drew HO497.out)
       have n2_ := Aside0.mk (blk_drew BK473.out)
       have n3_ := Aside0.mk (blk_drew BK503.out)
       have n4_ := Aside0.mk (below_drew1 HB.out)
       clear HO_7
       clear HO497
       clear BK473
       clear BK503
       clear HB
       have HO_7 := n0_
       have HO497 := n1_
       have BK473 := n2_
       have BK503 := n3_
       have HB := n4_
       clear n0_ n1_ n2_ n3_ n4_
       refine start_ (n := 15) (S := fun w' => w'.cell? ⟨gb473, 0, none⟩ = some (.int .i64 a1_0) ∧ w'.cell? ⟨gb473, 1, none⟩ = some (.int .i64 a1_1)) (ds := []) #[false, false, false, false, false, false, false, false, false, false, false, false, false, false, false] (by kernel_rfl) rfl rfl ⟨(blk_cell BK473.out 0).trans rfl, (blk_cell BK473.out 1).trans rfl⟩ (fun hHeld => ?_); refine with_tabW comfitlaw06_TagsFewer.tab8 comfitlaw06_TagsFewer.bits8 (fun HT_ HW_ => ?_)
       generalize w51.drew = w52 at HO_7 HO497 BK473 BK503 HB hHeld ⊢
       refine pure_ (i := 0) (N := some 77) (v := ?_) (a' := ?_) #[true, false, false, false, false, false, false, false, false, false, false, false, false, false, false] rfl rfl (any_of HT_.out (by kernel_rfl)) (fun _ _ _ h => h) (Or.inl ⟨by rfl, ?_⟩) ?_ ?_
       rotate_left
       ·intro w'
        go_simp
        with_reducible rfl
       rotate_left
       ·simp only [Act.put, List.setIfInBounds_toArray, List.set_cons_zero, List.set_cons_succ, i64_w, i32_w]
        rfl
       refine pure_ (i := 3) (N := some 80) (v := ?_) (a' := ?_) #[true, false, false, true, false, false, false, false, false, false, false, false, false, false, false] rfl rfl (any_of HT_.out (by kernel_rfl)) (fun _ _ _ h => h) (Or.inl ⟨by rfl, ?_⟩) ?_ ?_
       rotate_left
       ·intro w'
        go_simp
        with_reducible rfl
       rotate_left
       ·simp only [Act.put, List.setIfInBounds_toArray, List.set_cons_zero, List.set_cons_succ, i64_w, i32_w]
        rfl
       refine take_ (i := 2) (N := some 79) (v := ?_) (a' := ?_) #[true, false, true, true, false, false, false, false, false, false, false, false, false, false, false] rfl rfl (take_ofW HT_.out HW_.out (by kernel_rfl)) (fun _ _ _ h => h) (Or.inl ⟨by rfl, ?_⟩) hHeld ?_ ?_
       rotate_left
       ·rintro w' ⟨s0, s1⟩
        go_simp
        with_reducible rfl
       rotate_left
       ·simp only [Act.put, List.setIfInBounds_toArray, List.set_cons_zero, List.set_cons_succ, i64_w, i32_w]
        rfl
       refine join_ (σ := Value × Nat) 4 #[true, true, true, true, true, true, true, true, true, true, true, false, false, false, false] (fun s_ => [(78, s_.1), (81, .tuple #[.int .i64 t507, .agg #[.int .i64 t508, .int .i64 t509], .int .i64 t510, .int .i64 t511]), (15, .pointer (some ⟨s_.2, 0, none⟩)), (76, .tuple #[.int .i64 t507, .agg #[.int .i64 t508, .int .i64 t509], .int .i64 t510, .int .i64 t511]), (82, .int .i64 t507), (83, .agg #[.int .i64 t508, .int .i64 t509]), (84, .int .i64 t510), (85, .int .i64 t511)]) (fun s_ w' => (w'.cell? ⟨gb473, 0, none⟩ = some (.int .i64 a1_0) ∧ w'.cell? ⟨gb473, 1, none⟩ = some (.int .i64 a1_1)) ∧ (Kd.R k57 57 w' w.heap.size (fun k_ => some k_ ≠ (s_.1 : Value).ownBlock ∧ some k_ ≠ (.slice Ao21 t477.length co21 : Value).ownBlock) v496 t495) ∧ (Kd.R k57 57 w' w.heap.size (fun k_ => some k_ ≠ (v496 : Value).ownBlock ∧ some k_ ≠ (.slice Ao21 t477.length co21 : Value).ownBlock) s_.1 t504) ∧ (Kd.R k57 57 w' w.heap.size (fun k_ => some k_ ≠ (v496 : Value).ownBlock ∧ some k_ ≠ (s_.1 : Value).ownBlock) (.slice Ao21 t477.length co21) t477) ∧ (w'.heap[gb473]? = some (.cells #[.int .i64 a1_0, .int .i64 a1_1] 23 (0, 0))) ∧ (w'.heap[gb503]? = some (.cells #[.int .i64 t499, .int .i64 t500] 23 (0, 0))) ∧ (w'.heap[s_.2]? = some (.cells #[.int .i64 0, .int .i64 0] 23 (0, 0))) ∧ (w.heap.size ≤ s_.2) ∧ (w.heap.size ≤ s_.2) ∧ (gb473 ≠ s_.2) ∧ (s_.2 ≠ gb473) ∧ (gb503 ≠ s_.2) ∧ (s_.2 ≠ gb503) ∧ (Below w.heap.size w w')) ?_ ?_
       rotate_left
       ·intro hCont
        refine two_ (i := 1) (j := 10) (Ni := some 78) (Nj := some 15) #[true, true, true, true, false, false, false, false, false, false, false, false, false, false, false] #[true, false, true, true, false, false, false, false, false, false, true, false, false, false, false] rfl rfl rfl rfl (two_of HT_.out (by kernel_rfl)) (by decide) (by decide) (fun K hK => ?_) (fun K hK => ?_)
        ·skip
         refine goes_ Try.func28 (by kernel_rfl) rfl #[.slice Ao21 t477.length co21] (by rfl) rfl rfl al_ ?_
         with_reducible refine (tags_Order_28.calls _ _ t477 t504 _ ?side1 ?side2 A40.out).mono ?_
         (case side1 => exact kc_ (Kd.R_reads' HO_7.out).2.2)
         (case side2 => exact (Kd.R_reads' HO_7.out).2.1)
         rintro e w53 ⟨v505, rfl, ho0, hb⟩
         refine ⟨_, rfl, ?_⟩
         have n0_ := Aside0.mk (Kd.R_elder' (kr_ (HO_7.out)) (Kd.R_base ho0) hb)
         have n1_ := Aside0.mk (Kd.R_elder' (kr_ (HO497.out)) (Kd.R_base ho0) hb)
         have n2_ := Aside0.mk (Kd.R_lower (Kd.R_new' (Kd.R_new' ho0 (Kd.R_lt (kr_ (HO_7.out)))) (Kd.R_lt (kr_ (HO497.out)))) (below_size (hb_ HB.out)))
         have n3_ := Aside0.mk (bkb_ BK473.out hb)
         have n4_ := Aside0.mk (bkb_ BK503.out hb)
         have n5_ := Aside0.mk (below_step (hb_ HB.out) hb)
         clear HO_7
         clear HO497
         clear BK473
         clear BK503
         clear HB
         have HO_7 := n0_
         have HO497 := n1_
         have HO506 := n2_
         have BK473 := n3_
         have BK503 := n4_
         have HB := n5_
         clear n0_ n1_ n2_ n3_ n4_ n5_
         (try clear hb)
         (try clear hb2)
         (try clear hk)
         (try clear hi)
         (try clear ho0)
         obtain ⟨Ao54, co54, eo54⟩ := Kd.R_slice HO506.out
         (first | subst eo54 | (injection eo54 with f1_ f2_ f3_; have f4_ := f1_.symm; have f5_ := f3_.symm; clear f1_ f2_ f3_; subst f4_; subst f5_))
         refine hK.out _ _ ⟨(blk_cell BK473.out 0).trans rfl, (blk_cell BK473.out 1).trans rfl⟩ (fun hHeld => ?_)
         clear hK K
         refine norm_ (a' := ?_) ?_ ?_
         rotate_left
         ·show Act.put _ (some 78) _ = _
          simp only [Act.put, List.setIfInBounds_toArray, List.set_cons_zero, List.set_cons_succ, i64_w, i32_w]
          rfl
         refine two_ (i := 4) (j := 10) (Ni := some 81) (Nj := some 15) #[true, true, true, true, true, false, false, false, false, false, false, false, false, false, false] #[true, true, true, true, false, false, false, false, false, false, true, false, false, false, false] rfl rfl rfl rfl (two_of HT_.out (by kernel_rfl)) (by decide) (by decide) (fun K hK => ?_) (fun K hK => ?_)
         ·skip
          refine goes_ Try.func10 (by kernel_rfl) rfl #[.slice Ao54 t504.length co54, .agg #[.int .i64 a1_0, .int .i64 a1_1], .int .i64 a2] (by rfl) rfl rfl al_ ?_
          with_reducible refine (tags_Go.calls kj19 _ _ t504 a1_0 a1_1 a2 t507 t508 t509 t510 t511 _ ?side1 ?side2 A41.out).mono ?_
          (case side1 => exact kc_ (Kd.R_reads' HO506.out).2.2)
          (case side2 => exact (Kd.R_reads' HO506.out).2.1)
          rintro e w55 ⟨rfl, hb⟩
          refine ⟨_, rfl, ?_⟩
          have n0_ := Aside0.mk (Kd.R_below (kr_ (HO_7.out)) hb)
          have n1_ := Aside0.mk (Kd.R_below (kr_ (HO497.out)) hb)
          have n2_ := Aside0.mk (Kd.R_below (kr_ (HO506.out)) hb)
          have n3_ := Aside0.mk (bkb_ BK473.out hb)
          have n4_ := Aside0.mk (bkb_ BK503.out hb)
          have n5_ := Aside0.mk (below_step (hb_ HB.out) hb)
          clear HO_7
          clear HO497
          clear HO506
          clear BK473
          clear BK503
          clear HB
          have HO_7 := n0_
          have HO497 := n1_
          have HO506 := n2_
          have BK473 := n3_
          have BK503 := n4_
          have HB := n5_
          clear n0_ n1_ n2_ n3_ n4_ n5_
          (try clear hb)
          (try clear hb2)
          (try clear hk)
          (try clear hi)
          refine hK.out _ _ ⟨(blk_cell BK473.out 0).trans rfl, (blk_cell BK473.out 1).trans rfl⟩ (fun hHeld => ?_)
          clear hK K
          refine norm_ (a' := ?_) ?_ ?_
          rotate_left
          ·show Act.put _ (some 81) _ = _
           simp only [Act.put, List.setIfInBounds_toArray, List.set_cons_zero, List.set_cons_succ, i64_w, i32_w]
           rfl
          refine pure_ (i := 5) (N := some 76) (v := ?_) (a' := ?_) #[true, true, true, true, true, true, false, false, false, false, false, false, false, false, false] rfl rfl (any_of HT_.out (by kernel_rfl)) (fun _ _ _ h => h) (Or.inl ⟨by rfl, ?_⟩) ?_ ?_
          rotate_left
          ·intro w'
           go_simp
           with_reducible rfl
          rotate_left
          ·simp only [Act.put, List.setIfInBounds_toArray, List.set_cons_zero, List.set_cons_succ, i64_w, i32_w]
           rfl
          refine pure_ (i := 6) (N := some 82) (v := ?_) (a' := ?_) #[true, true, true, true, true, true, true, false, false, false, false, false, false, false, false] rfl rfl (any_of HT_.out (by kernel_rfl)) (fun _ _ _ h => h) (Or.inl ⟨by rfl, ?_⟩) ?_ ?_
          rotate_left
          ·intro w'
           go_simp
           with_reducible rfl
          rotate_left
          ·simp only [Act.put, List.setIfInBounds_toArray, List.set_cons_zero, List.set_cons_succ, i64_w, i32_w]
           rfl
          refine pure_ (i := 7) (N := some 83) (v := ?_) (a' := ?_) #[true, true, true, true, true, true, true, true, false, false, false, false, false, false, false] rfl rfl (any_of HT_.out (by kernel_rfl)) (fun _ _ _ h => h) (Or.inl ⟨by rfl, ?_⟩) ?_ ?_
          rotate_left
          ·intro w'
           go_simp
           with_reducible rfl
          rotate_left
          ·simp only [Act.put, List.setIfInBounds_toArray, List.set_cons_zero, List.set_cons_succ, i64_w, i32_w]
           rfl
          refine pure_ (i := 8) (N := some 84) (v := ?_) (a' := ?_) #[true, true, true, true, true, true, true, true, true, false, false, false, false, false, false] rfl rfl (any_of HT_.out (by kernel_rfl)) (fun _ _ _ h => h) (Or.inl ⟨by rfl, ?_⟩) ?_ ?_
          rotate_left
          ·intro w'
           go_simp
           with_reducible rfl
          rotate_left
          ·simp only [Act.put, List.setIfInBounds_toArray, List.set_cons_zero, List.set_cons_succ, i64_w, i32_w]
           rfl
          refine pure_ (i := 9) (N := some 85) (v := ?_) (a' := ?_) #[true, true, true, true, true, true, true, true, true, true, false, false, false, false, false] rfl rfl (any_of HT_.out (by kernel_rfl)) (fun _ _ _ h => h) (Or.inl ⟨by rfl, ?_⟩) ?_ ?_
          rotate_left
          ·intro w'
           go_simp
           with_reducible rfl
          rotate_left
          ·simp only [Act.put, List.setIfInBounds_toArray, List.set_cons_zero, List.set_cons_succ, i64_w, i32_w]
           rfl
          refine one_ (i := 10) (N := some 15) #[true, true, true, true, true, true, true, true, true, true, true, false, false, false, false] rfl rfl (one_of HT_.out (by kernel_rfl)) (by decide) (fun K hK => ?_)
          refine box_step ?hg (N := 15) ?hd (cs := #[.int .i64 0, .int .i64 0]) (t := 23) ?hr ?_; (case hd => rfl); (case hg => rfl); (case hr => first | (go_simp; done) | (go_simp; rfl))
          intro gb512 hg w56 hbox hb
          have n0_ := Aside0.mk (Kd.R_below (kr_ (HO_7.out)) hb)
          have n1_ := Aside0.mk (Kd.R_below (kr_ (HO497.out)) hb)
          have n2_ := Aside0.mk (Kd.R_below (kr_ (HO506.out)) hb)
          have n3_ := Aside0.mk (bkb_ BK473.out hb)
          have n4_ := Aside0.mk (bkb_ BK503.out hb)
          have n5_ := Aside0.mk (below_step (hb_ HB.out) hb)
          have n6_ := Aside0.mk (hbox)
          have n7_ := Aside0.mk ((by rw [hg]; exact (below_size (hb_ HB.out)) : w.heap.size ≤ gb512))
          have n8_ := Aside0.mk ((by rw [hg]; exact (below_size (hb_ HB.out)) : w.heap.size ≤ gb512))
          have n9_ := Aside0.mk ((by rw [hg]; exact Nat.ne_of_lt (bkl_ BK473.out) : gb473 ≠ gb512))
          have n10_ := Aside0.mk ((by rw [hg]; exact Nat.ne_of_gt (bkl_ BK473.out) : gb512 ≠ gb473))
          have n11_ := Aside0.mk ((by rw [hg]; exact Nat.ne_of_lt (bkl_ BK503.out) : gb503 ≠ gb512))
          have n12_ := Aside0.mk ((by rw [hg]; exact Nat.ne_of_gt (bkl_ BK503.out) : gb512 ≠ gb503))
          clear HO_7
          clear HO497
          clear HO506
          clear BK473
          clear BK503
          clear HB
          have HO_7 := n0_
          have HO497 := n1_
          have HO506 := n2_
          have BK473 := n3_
          have BK503 := n4_
          have HB := n5_
          have BK512 := n6_
          have GW512 := n7_
          have GE512 := n8_
          have NB473_512 := n9_
          have NB512_473 := n10_
          have NB503_512 := n11_
          have NB512_503 := n12_
          clear n0_ n1_ n2_ n3_ n4_ n5_ n6_ n7_ n8_ n9_ n10_ n11_ n12_
          clear hb hbox hg
          refine hK.out _ _ ⟨(blk_cell BK473.out 0).trans rfl, (blk_cell BK473.out 1).trans rfl⟩ (fun hHeld => ?_)
          clear hK K
          refine norm_ (a' := ?_) ?_ ?_
          rotate_left
          ·show Act.put _ (some 15) _ = _
           simp only [Act.put, List.setIfInBounds_toArray, List.set_cons_zero, List.set_cons_succ, i64_w, i32_w]
           rfl
          exact norm_ (by simp only [putAll, Act.put, List.setIfInBounds_toArray, List.set_cons_zero, List.set_cons_succ]) (hCont (.slice Ao54 t504.length co54, gb512) _ ⟨hHeld, (by (with_reducible repeat (first | apply Kd.R_alloc | apply Kd.R_drewN | apply Kd.R_drew)); exact Kd.R_mono HO497.out (fun _ hk => ⟨hk.2, hk.1⟩)), (by (with_reducible repeat (first | apply Kd.R_alloc | apply Kd.R_drewN | apply Kd.R_drew)); exact Kd.R_mono HO506.out (fun _ hk => ⟨hk.2, hk.1.2⟩)), (kr_ (HO_7.out)), (bk_ BK473.out), (bk_ BK503.out), (bk_ BK512.out), GW512.out, GE512.out, NB473_512.out, NB512_473.out, NB503_512.out, NB512_503.out, (hb_ HB.out)⟩)
         ·skip
          refine box_step ?hg (N := 15) ?hd (cs := #[.int .i64 0, .int .i64 0]) (t := 23) ?hr ?_; (case hd => rfl); (case hg => rfl); (case hr => first | (go_simp; done) | (go_simp; rfl))
          intro gb512 hg w54 hbox hb
          have n0_ := Aside0.mk (Kd.R_below (kr_ (HO_7.out)) hb)
          have n1_ := Aside0.mk (Kd.R_below (kr_ (HO497.out)) hb)
          have n2_ := Aside0.mk (Kd.R_below (kr_ (HO506.out)) hb)
          have n3_ := Aside0.mk (bkb_ BK473.out hb)
          have n4_ := Aside0.mk (bkb_ BK503.out hb)
          have n5_ := Aside0.mk (below_step (hb_ HB.out) hb)
          have n6_ := Aside0.mk (hbox)
          have n7_ := Aside0.mk ((by rw [hg]; exact (below_size (hb_ HB.out)) : w.heap.size ≤ gb512))
          have n8_ := Aside0.mk ((by rw [hg]; exact (below_size (hb_ HB.out)) : w.heap.size ≤ gb512))
          have n9_ := Aside0.mk ((by rw [hg]; exact Nat.ne_of_lt (bkl_ BK473.out) : gb473 ≠ gb512))
          have n10_ := Aside0.mk ((by rw [hg]; exact Nat.ne_of_gt (bkl_ BK473.out) : gb512 ≠ gb473))
          have n11_ := Aside0.mk ((by rw [hg]; exact Nat.ne_of_lt (bkl_ BK503.out) : gb503 ≠ gb512))
          have n12_ := Aside0.mk ((by rw [hg]; exact Nat.ne_of_gt (bkl_ BK503.out) : gb512 ≠ gb503))
          clear HO_7
          clear HO497
          clear HO506
          clear BK473
          clear BK503
          clear HB
          have HO_7 := n0_
          have HO497 := n1_
          have HO506 := n2_
          have BK473 := n3_
          have BK503 := n4_
          have HB := n5_
          have BK512 := n6_
          have GW512 := n7_
          have GE512 := n8_
          have NB473_512 := n9_
          have NB512_473 := n10_
          have NB503_512 := n11_
          have NB512_503 := n12_
          clear n0_ n1_ n2_ n3_ n4_ n5_ n6_ n7_ n8_ n9_ n10_ n11_ n12_
          clear hb hbox hg
          obtain ⟨Ao55, co55, eo55⟩ := Kd.R_slice HO506.out
          (first | subst eo55 | (injection eo55 with f1_ f2_ f3_; have f4_ := f1_.symm; have f5_ := f3_.symm; clear f1_ f2_ f3_; subst f4_; subst f5_))
          refine hK.out _ _ ⟨(blk_cell BK473.out 0).trans rfl, (blk_cell BK473.out 1).trans rfl⟩ (fun hHeld => ?_)
          clear hK K
          refine norm_ (a' := ?_) ?_ ?_
          rotate_left
          ·show Act.put _ (some 15) _ = _
           simp only [Act.put, List.setIfInBounds_toArray, List.set_cons_zero, List.set_cons_succ, i64_w, i32_w]
           rfl
          refine one_ (i := 4) (N := some 81) #[true, true, true, true, true, false, false, false, false, false, true, false, false, false, false] rfl rfl (one_of HT_.out (by kernel_rfl)) (by decide) (fun K hK => ?_)
          refine goes_ Try.func10 (by kernel_rfl) rfl #[.slice Ao55 t504.length co55, .agg #[.int .i64 a1_0, .int .i64 a1_1], .int .i64 a2] (by rfl) rfl rfl al_ ?_
          with_reducible refine (tags_Go.calls kj19 _ _ t504 a1_0 a1_1 a2 t507 t508 t509 t510 t511 _ ?side1 ?side2 A41.out).mono ?_
          (case side1 => exact kc_ (Kd.R_reads' HO506.out).2.2)
          (case side2 => exact (Kd.R_reads' HO506.out).2.1)
          rintro e w56 ⟨rfl, hb⟩
          refine ⟨_, rfl, ?_⟩
          have n0_ := Aside0.mk (Kd.R_below (kr_ (HO_7.out)) hb)
          have n1_ := Aside0.mk (Kd.R_below (kr_ (HO497.out)) hb)
          have n2_ := Aside0.mk (Kd.R_below (kr_ (HO506.out)) hb)
          have n3_ := Aside0.mk (bkb_ BK473.out hb)
          have n4_ := Aside0.mk (bkb_ BK503.out hb)
          have n5_ := Aside0.mk (bkb_ BK512.out hb)
          have n6_ := Aside0.mk (below_step (hb_ HB.out) hb)
          clear HO_7
          clear HO497
          clear HO506
          clear BK473
          clear BK503
          clear BK512
          clear HB
          have HO_7 := n0_
          have HO497 := n1_
          have HO506 := n2_
          have BK473 := n3_
          have BK503 := n4_
          have BK512 := n5_
          have HB := n6_
          clear n0_ n1_ n2_ n3_ n4_ n5_ n6_
          (try clear hb)
          (try clear hb2)
          (try clear hk)
          (try clear hi)
          refine hK.out _ _ ⟨(blk_cell BK473.out 0).trans rfl, (blk_cell BK473.out 1).trans rfl⟩ (fun hHeld => ?_)
          clear hK K
          refine norm_ (a' := ?_) ?_ ?_
          rotate_left
          ·show Act.put _ (some 81) _ = _
           simp only [Act.put, List.setIfInBounds_toArray, List.set_cons_zero, List.set_cons_succ, i64_w, i32_w]
           rfl
          refine pure_ (i := 5) (N := some 76) (v := ?_) (a' := ?_) #[true, true, true, true, true, true, false, false, false, false, true, false, false, false, false] rfl rfl (any_of HT_.out (by kernel_rfl)) (fun _ _ _ h => h) (Or.inl ⟨by rfl, ?_⟩) ?_ ?_
          rotate_left
          ·intro w'
           go_simp
           with_reducible rfl
          rotate_left
          ·simp only [Act.put, List.setIfInBounds_toArray, List.set_cons_zero, List.set_cons_succ, i64_w, i32_w]
           rfl
          refine pure_ (i := 6) (N := some 82) (v := ?_) (a' := ?_) #[true, true, true, true, true, true, true, false, false, false, true, false, false, false, false] rfl rfl (any_of HT_.out (by kernel_rfl)) (fun _ _ _ h => h) (Or.inl ⟨by rfl, ?_⟩) ?_ ?_
          rotate_left
          ·intro w'
           go_simp
           with_reducible rfl
          rotate_left
          ·simp only [Act.put, List.setIfInBounds_toArray, List.set_cons_zero, List.set_cons_succ, i64_w, i32_w]
           rfl
          refine pure_ (i := 7) (N := some 83) (v := ?_) (a' := ?_) #[true, true, true, true, true, true, true, true, false, false, true, false, false, false, false] rfl rfl (any_of HT_.out (by kernel_rfl)) (fun _ _ _ h => h) (Or.inl ⟨by rfl, ?_⟩) ?_ ?_
          rotate_left
          ·intro w'
           go_simp
           with_reducible rfl
          rotate_left
          ·simp only [Act.put, List.setIfInBounds_toArray, List.set_cons_zero, List.set_cons_succ, i64_w, i32_w]
           rfl
          refine pure_ (i := 8) (N := some 84) (v := ?_) (a' := ?_) #[true, true, true, true, true, true, true, true, true, false, true, false, false, false, false] rfl rfl (any_of HT_.out (by kernel_rfl)) (fun _ _ _ h => h) (Or.inl ⟨by rfl, ?_⟩) ?_ ?_
          rotate_left
          ·intro w'
           go_simp
           with_reducible rfl
          rotate_left
          ·simp only [Act.put, List.setIfInBounds_toArray, List.set_cons_zero, List.set_cons_succ, i64_w, i32_w]
           rfl
          refine pure_ (i := 9) (N := some 85) (v := ?_) (a' := ?_) #[true, true, true, true, true, true, true, true, true, true, true, false, false, false, false] rfl rfl (any_of HT_.out (by kernel_rfl)) (fun _ _ _ h => h) (Or.inl ⟨by rfl, ?_⟩) ?_ ?_
          rotate_left
          ·intro w'
           go_simp
           with_reducible rfl
          rotate_left
          ·simp only [Act.put, List.setIfInBounds_toArray, List.set_cons_zero, List.set_cons_succ, i64_w, i32_w]
           rfl
          exact norm_ (by simp only [putAll, Act.put, List.setIfInBounds_toArray, List.set_cons_zero, List.set_cons_succ]) (hCont (.slice Ao55 t504.length co55, gb512) _ ⟨hHeld, (by (with_reducible repeat (first | apply Kd.R_alloc | apply Kd.R_drewN | apply Kd.R_drew)); exact Kd.R_mono HO497.out (fun _ hk => ⟨hk.2, hk.1⟩)), (by (with_reducible repeat (first | apply Kd.R_alloc | apply Kd.R_drewN | apply Kd.R_drew)); exact Kd.R_mono HO506.out (fun _ hk => ⟨hk.2, hk.1.2⟩)), (kr_ (HO_7.out)), (bk_ BK473.out), (bk_ BK503.out), (bk_ BK512.out), GW512.out, GE512.out, NB473_512.out, NB512_473.out, NB503_512.out, NB512_503.out, (hb_ HB.out)⟩)
        ·skip
         refine box_step ?hg (N := 15) ?hd (cs := #[.int .i64 0, .int .i64 0]) (t := 23) ?hr ?_; (case hd => rfl); (case hg => rfl); (case hr => first | (go_simp; done) | (go_simp; rfl))
         intro gb512 hg w53 hbox hb
         have n0_ := Aside0.mk (Kd.R_below (kr_ (HO_7.out)) hb)
         have n1_ := Aside0.mk (Kd.R_below (kr_ (HO497.out)) hb)
         have n2_ := Aside0.mk (bkb_ BK473.out hb)
         have n3_ := Aside0.mk (bkb_ BK503.out hb)
         have n4_ := Aside0.mk (below_step (hb_ HB.out) hb)
         have n5_ := Aside0.mk (hbox)
         have n6_ := Aside0.mk ((by rw [hg]; exact (below_size (hb_ HB.out)) : w.heap.size ≤ gb512))
         have n7_ := Aside0.mk ((by rw [hg]; exact (below_size (hb_ HB.out)) : w.heap.size ≤ gb512))
         have n8_ := Aside0.mk ((by rw [hg]; exact Nat.ne_of_lt (bkl_ BK473.out) : gb473 ≠ gb512))
         have n9_ := Aside0.mk ((by rw [hg]; exact Nat.ne_of_gt (bkl_ BK473.out) : gb512 ≠ gb473))
         have n10_ := Aside0.mk ((by rw [hg]; exact Nat.ne_of_lt (bkl_ BK503.out) : gb503 ≠ gb512))
         have n11_ := Aside0.mk ((by rw [hg]; exact Nat.ne_of_gt (bkl_ BK503.out) : gb512 ≠ gb503))
         clear HO_7
         clear HO497
         clear BK473
         clear BK503
         clear HB
         have HO_7 := n0_
         have HO497 := n1_
         have BK473 := n2_
         have BK503 := n3_
         have HB := n4_
         have BK512 := n5_
         have GW512 := n6_
         have GE512 := n7_
         have NB473_512 := n8_
         have NB512_473 := n9_
         have NB503_512 := n10_
         have NB512_503 := n11_
         clear n0_ n1_ n2_ n3_ n4_ n5_ n6_ n7_ n8_ n9_ n10_ n11_
         clear hb hbox hg
         refine hK.out _ _ ⟨(blk_cell BK473.out 0).trans rfl, (blk_cell BK473.out 1).trans rfl⟩ (fun hHeld => ?_)
         clear hK K
         refine norm_ (a' := ?_) ?_ ?_
         rotate_left
         ·show Act.put _ (some 15) _ = _
          simp only [Act.put, List.setIfInBounds_toArray, List.set_cons_zero, List.set_cons_succ, i64_w, i32_w]
          rfl
         refine one_ (i := 1) (N := some 78) #[true, true, true, true, false, false, false, false, false, false, true, false, false, false, false] rfl rfl (one_of HT_.out (by kernel_rfl)) (by decide) (fun K hK => ?_)
         refine goes_ Try.func28 (by kernel_rfl) rfl #[.slice Ao21 t477.length co21] (by rfl) rfl rfl al_ ?_
         with_reducible refine (tags_Order_28.calls _ _ t477 t504 _ ?side1 ?side2 A40.out).mono ?_
         (case side1 => exact kc_ (Kd.R_reads' HO_7.out).2.2)
         (case side2 => exact (Kd.R_reads' HO_7.out).2.1)
         rintro e w54 ⟨v505, rfl, ho0, hb⟩
         refine ⟨_, rfl, ?_⟩
         have n0_ := Aside0.mk (Kd.R_elder' (kr_ (HO_7.out)) (Kd.R_base ho0) hb)
         have n1_ := Aside0.mk (Kd.R_elder' (kr_ (HO497.out)) (Kd.R_base ho0) hb)
         have n2_ := Aside0.mk (Kd.R_lower (Kd.R_new' (Kd.R_new' ho0 (Kd.R_lt (kr_ (HO_7.out)))) (Kd.R_lt (kr_ (HO497.out)))) (below_size (hb_ HB.out)))
         have n3_ := Aside0.mk (bkb_ BK473.out hb)
         have n4_ := Aside0.mk (bkb_ BK503.out hb)
         have n5_ := Aside0.mk (bkb_ BK512.out hb)
         have n6_ := Aside0.mk (below_step (hb_ HB.out) hb)
         clear HO_7
         clear HO497
         clear BK473
         clear BK503
         clear BK512
         clear HB
         have HO_7 := n0_
         have HO497 := n1_
         have HO506 := n2_
         have BK473 := n3_
         have BK503 := n4_
         have BK512 := n5_
         have HB := n6_
         clear n0_ n1_ n2_ n3_ n4_ n5_ n6_
         (try clear hb)
         (try clear hb2)
         (try clear hk)
         (try clear hi)
         (try clear ho0)
         obtain ⟨Ao55, co55, eo55⟩ := Kd.R_slice HO506.out
         (first | subst eo55 | (injection eo55 with f1_ f2_ f3_; have f4_ := f1_.symm; have f5_ := f3_.symm; clear f1_ f2_ f3_; subst f4_; subst f5_))
         refine hK.out _ _ ⟨(blk_cell BK473.out 0).trans rfl, (blk_cell BK473.out 1).trans rfl⟩ (fun hHeld => ?_)
         clear hK K
         refine norm_ (a' := ?_) ?_ ?_
         rotate_left
         ·show Act.put _ (some 78) _ = _
          simp only [Act.put, List.setIfInBounds_toArray, List.set_cons_zero, List.set_cons_succ, i64_w, i32_w]
          rfl
         refine one_ (i := 4) (N := some 81) #[true, true, true, true, true, false, false, false, false, false, true, false, false, false, false] rfl rfl (one_of HT_.out (by kernel_rfl)) (by decide) (fun K hK => ?_)
         refine goes_ Try.func10 (by kernel_rfl) rfl #[.slice Ao55 t504.length co55, .agg #[.int .i64 a1_0, .int .i64 a1_1], .int .i64 a2] (by rfl) rfl rfl al_ ?_
         with_reducible refine (tags_Go.calls kj19 _ _ t504 a1_0 a1_1 a2 t507 t508 t509 t510 t511 _ ?side1 ?side2 A41.out).mono ?_
         (case side1 => exact kc_ (Kd.R_reads' HO506.out).2.2)
         (case side2 => exact (Kd.R_reads' HO506.out).2.1)
         rintro e w56 ⟨rfl, hb⟩
         refine ⟨_, rfl, ?_⟩
         have n0_ := Aside0.mk (Kd.R_below (kr_ (HO_7.out)) hb)
         have n1_ := Aside0.mk (Kd.R_below (kr_ (HO497.out)) hb)
         have n2_ := Aside0.mk (Kd.R_below (kr_ (HO506.out)) hb)
         have n3_ := Aside0.mk (bkb_ BK473.out hb)
         have n4_ := Aside0.mk (bkb_ BK503.out hb)
         have n5_ := Aside0.mk (bkb_ BK512.out hb)
         have n6_ := Aside0.mk (below_step (hb_ HB.out) hb)
         clear HO_7
         clear HO497
         clear HO506
         clear BK473
         clear BK503
         clear BK512
         clear HB
         have HO_7 := n0_
         have HO497 := n1_
         have HO506 := n2_
         have BK473 := n3_
         have BK503 := n4_
         have BK512 := n5_
         have HB := n6_
         clear n0_ n1_ n2_ n3_ n4_ n5_ n6_
         (try clear hb)
         (try clear hb2)
         (try clear hk)
         (try clear hi)
         refine hK.out _ _ ⟨(blk_cell BK473.out 0).trans rfl, (blk_cell BK473.out 1).trans rfl⟩ (fun hHeld => ?_)
         clear hK K
         refine norm_ (a' := ?_) ?_ ?_
         rotate_left
         ·show Act.put _ (some 81) _ = _
          simp only [Act.put, List.setIfInBounds_toArray, List.set_cons_zero, List.set_cons_succ, i64_w, i32_w]
          rfl
         refine pure_ (i := 5) (N := some 76) (v := ?_) (a' := ?_) #[true, true, true, true, true, true, false, false, false, false, true, false, false, false, false] rfl rfl (any_of HT_.out (by kernel_rfl)) (fun _ _ _ h => h) (Or.inl ⟨by rfl, ?_⟩) ?_ ?_
         rotate_left
         ·intro w'
          go_simp
          with_reducible rfl
         rotate_left
         ·simp only [Act.put, List.setIfInBounds_toArray, List.set_cons_zero, List.set_cons_succ, i64_w, i32_w]
          rfl
         refine pure_ (i := 6) (N := some 82) (v := ?_) (a' := ?_) #[true, true, true, true, true, true, true, false, false, false, true, false, false, false, false] rfl rfl (any_of HT_.out (by kernel_rfl)) (fun _ _ _ h => h) (Or.inl ⟨by rfl, ?_⟩) ?_ ?_
         rotate_left
         ·intro w'
          go_simp
          with_reducible rfl
         rotate_left
         ·simp only [Act.put, List.setIfInBounds_toArray, List.set_cons_zero, List.set_cons_succ, i64_w, i32_w]
          rfl
         refine pure_ (i := 7) (N := some 83) (v := ?_) (a' := ?_) #[true, true, true, true, true, true, true, true, false, false, true, false, false, false, false] rfl rfl (any_of HT_.out (by kernel_rfl)) (fun _ _ _ h => h) (Or.inl ⟨by rfl, ?_⟩) ?_ ?_
         rotate_left
         ·intro w'
          go_simp
          with_reducible rfl
         rotate_left
         ·simp only [Act.put, List.setIfInBounds_toArray, List.set_cons_zero, List.set_cons_succ, i64_w, i32_w]
          rfl
         refine pure_ (i := 8) (N := some 84) (v := ?_) (a' := ?_) #[true, true, true, true, true, true, true, true, true, false, true, false, false, false, false] rfl rfl (any_of HT_.out (by kernel_rfl)) (fun _ _ _ h => h) (Or.inl ⟨by rfl, ?_⟩) ?_ ?_
         rotate_left
         ·intro w'
          go_simp
          with_reducible rfl
         rotate_left
         ·simp only [Act.put, List.setIfInBounds_toArray, List.set_cons_zero, List.set_cons_succ, i64_w, i32_w]
          rfl
         refine pure_ (i := 9) (N := some 85) (v := ?_) (a' := ?_) #[true, true, true, true, true, true, true, true, true, true, true, false, false, false, false] rfl rfl (any_of HT_.out (by kernel_rfl)) (fun _ _ _ h => h) (Or.inl ⟨by rfl, ?_⟩) ?_ ?_
         rotate_left
         ·intro w'
          go_simp
          with_reducible rfl
         rotate_left
         ·simp only [Act.put, List.setIfInBounds_toArray, List.set_cons_zero, List.set_cons_succ, i64_w, i32_w]
          rfl
         exact norm_ (by simp only [putAll, Act.put, List.setIfInBounds_toArray, List.set_cons_zero, List.set_cons_succ]) (hCont (.slice Ao55 t504.length co55, gb512) _ ⟨hHeld, (by (with_reducible repeat (first | apply Kd.R_alloc | apply Kd.R_drewN | apply Kd.R_drew)); exact Kd.R_mono HO497.out (fun _ hk => ⟨hk.2, hk.1⟩)), (by (with_reducible repeat (first | apply Kd.R_alloc | apply Kd.R_drewN | apply Kd.R_drew)); exact Kd.R_mono HO506.out (fun _ hk => ⟨hk.2, hk.1.2⟩)), (kr_ (HO_7.out)), (bk_ BK473.out), (bk_ BK503.out), (bk_ BK512.out), GW512.out, GE512.out, NB473_512.out, NB512_473.out, NB503_512.out, NB512_503.out, (hb_ HB.out)⟩)
       rintro ⟨v505, gb512⟩ w57 ⟨hS_, h0_, h1_, h2_, h3_, h4_, h5_, h6_, h7_, h8_, h9_, h10_, h11_, h12_⟩
       have n0_ : Aside0 (Kd.R k57 57 w57 w.heap.size (fun k_ => some k_ ≠ (v505 : Value).ownBlock ∧ some k_ ≠ (.slice Ao21 t477.length co21 : Value).ownBlock) v496 t495) := ⟨h0_⟩
       have n1_ : Aside0 (Kd.R k57 57 w57 w.heap.size (fun k_ => some k_ ≠ (v496 : Value).ownBlock ∧ some k_ ≠ (.slice Ao21 t477.length co21 : Value).ownBlock) v505 t504) := ⟨h1_⟩
       have n2_ : Aside0 (Kd.R k57 57 w57 w.heap.size (fun k_ => some k_ ≠ (v496 : Value).ownBlock ∧ some k_ ≠ (v505 : Value).ownBlock) (.slice Ao21 t477.length co21) t477) := ⟨h2_⟩
       have n3_ : Aside0 (w57.heap[gb473]? = some (.cells #[.int .i64 a1_0, .int .i64 a1_1] 23 (0, 0))) := ⟨h3_⟩
       have n4_ : Aside0 (w57.heap[gb503]? = some (.cells #[.int .i64 t499, .int .i64 t500] 23 (0, 0))) := ⟨h4_⟩
       have n5_ : Aside0 (w57.heap[gb512]? = some (.cells #[.int .i64 0, .int .i64 0] 23 (0, 0))) := ⟨h5_⟩
       have n6_ : Aside0 (w.heap.size ≤ gb512) := ⟨h6_⟩
       have n7_ : Aside0 (w.heap.size ≤ gb512) := ⟨h7_⟩
       have n8_ : Aside0 (gb473 ≠ gb512) := ⟨h8_⟩
       have n9_ : Aside0 (gb512 ≠ gb473) := ⟨h9_⟩
       have n10_ : Aside0 (gb503 ≠ gb512) := ⟨h10_⟩
       have n11_ : Aside0 (gb512 ≠ gb503) := ⟨h11_⟩
       have n12_ : Aside0 (Below w.heap.size w w57) := ⟨h12_⟩
       clear HO_7
       clear HO497
       clear BK473
       clear BK503
       clear HB
       clear h0_ h1_ h2_ h3_ h4_ h5_ h6_ h7_ h8_ h9_ h10_ h11_ h12_
       have HO497 := n0_
       have HO506 := n1_
       have HO_7 := n2_
       have BK473 := n3_
       have BK503 := n4_
       have BK512 := n5_
       have GW512 := n6_
       have GE512 := n7_
       have NB473_512 := n8_
       have NB512_473 := n9_
       have NB503_512 := n10_
       have NB512_503 := n11_
       have HB := n12_
       clear n0_ n1_ n2_ n3_ n4_ n5_ n6_ n7_ n8_ n9_ n10_ n11_ n12_
       have hHeld : w57.cell? ⟨gb473, 0, none⟩ = some (.int .i64 a1_0) ∧ w57.cell? ⟨gb473, 1, none⟩ = some (.int .i64 a1_1) := hS_
       refine norm_ (a' := ?_) ?_ ?_
       rotate_left
       ·simp only [putAll, Act.put, List.setIfInBounds_toArray, List.set_cons_zero, List.set_cons_succ]
        rfl
       refine pure_ (i := 11) (N := some 14) (v := ?_) (a' := ?_) #[true, true, true, true, true, true, true, true, true, true, true, true, false, false, false] rfl rfl (any_of HT_.out (by kernel_rfl)) (fun _ _ _ h => h) (Or.inl ⟨by rfl, ?_⟩) ?_ ?_
       rotate_left
       ·intro w'
        go_simp
        with_reducible rfl
       rotate_left
       ·simp only [Act.put, List.setIfInBounds_toArray, List.set_cons_zero, List.set_cons_succ, i64_w, i32_w]
        rfl
       refine one_ (i := 12) (N := none) #[true, true, true, true, true, true, true, true, true, true, true, true, true, false, false] rfl rfl (one_of HT_.out (by kernel_rfl)) (by decide) (fun K hK => ?_)
       have hs58 : w57.cell? ⟨gb512, 0, none⟩ = some (.int .i64 0) := (blk_cell BK512.out 0).trans rfl
       have hfs58 := blk_frozen BK512.out 0
       have hns58_0 := NB473_512.out
       have hns58_1 := NB503_512.out
       have hms58_0 := NB512_473.out
       have hms58_1 := NB512_503.out
       have hs59 : w57.cell? ⟨gb512, 1, none⟩ = some (.int .i64 0) := (blk_cell BK512.out 1).trans rfl
       have hfs59 := blk_frozen BK512.out 1
       have hns59_0 := NB473_512.out
       have hns59_1 := NB503_512.out
       have hms59_0 := NB512_473.out
       have hms59_1 := NB512_503.out
       refine skip_ (w1 := ?_) (by rfl) rfl ?_ ?_
       rotate_left
       ·go_simp
        rfl
       refine hK.out _ _ ⟨((cell_far (p := ⟨gb512, _, none⟩) NB473_512.out _).trans (((cell_far (p := ⟨gb512, _, none⟩) NB473_512.out _).trans (hHeld.1)))), ((cell_far (p := ⟨gb512, _, none⟩) NB473_512.out _).trans (((cell_far (p := ⟨gb512, _, none⟩) NB473_512.out _).trans (hHeld.2))))⟩ (fun hHeld => ?_)
       clear hK K
       refine pure_ (i := 13) (N := some 16) (v := ?_) (a' := ?_) #[true, true, true, true, true, true, true, true, true, true, true, true, true, true, false] rfl rfl (any_of HT_.out (by kernel_rfl)) (fun _ _ _ h => h) (Or.inl ⟨by rfl, ?_⟩) ?_ ?_
       rotate_left
       ·intro w'
        go_simp
        with_reducible rfl
       rotate_left
       ·simp only [Act.put, List.setIfInBounds_toArray, List.set_cons_zero, List.set_cons_succ, i64_w, i32_w]
        rfl
       refine pure_ (i := 14) (N := some 10) (v := ?_) (a' := ?_) #[true, true, true, true, true, true, true, true, true, true, true, true, true, true, true] rfl rfl (any_of HT_.out (by kernel_rfl)) (fun _ _ _ h => h) (Or.inl ⟨by rfl, ?_⟩) ?_ ?_
       rotate_left
       ·intro w'
        go_simp
        with_reducible rfl
       rotate_left
       ·simp only [Act.put, List.setIfInBounds_toArray, List.set_cons_zero, List.set_cons_succ, i64_w, i32_w]
        rfl
       refine done_ (done_of HT_.out (by kernel_rfl)) ?_
       go_upto_region 9 with (fail)
       go_cut [91] (fun v91 wc => ∃ (kq : Nat) (x91_41 : Bool), v91 = .bool x91_41 ∧ Aside0 (comfitlaw06_TagsFewer.j2 kq l0 t477 t502 t511 t498 t501 t507 t510 x91_41 a1_0 a1_1 t499 t500 t508 t509 = some r) ∧ Aside0 (kq ≤ kj19) ∧ Aside0 (Kd.R k57 57 wc w.heap.size (fun _ => True) (.slice Ao21 t477.length co21) t477) ∧ Aside0 (wc.heap[gb473]? = some (.cells #[.int .i64 a1_0, .int .i64 a1_1] 23 (0, 0))) ∧ Aside0 (wc.heap[gb503]? = some (.cells #[.int .i64 t499, .int .i64 t500] 23 (0, 0))) ∧ Aside0 (wc.heap[gb512]? = some (.cells #[.int .i64 t508, .int .i64 t509] 23 (0, 0))) ∧ Aside0 (Below w.heap.size w wc))
       case first =>
        have H := HC42.out
        clear HC42
        by_cases c60 : t502 = 0
        ·rw [if_pos c60] at H
         have c60b0 : (t502 == 0) = true := beq_iff_eq.mpr c60
         have c60b1 : (t502 != 0) = false := bne_eq_false_iff_eq.mpr c60
         clear c60
         (first | rw [c60b0] | (simp only [i64_w, i32_w]; rw [c60b0]) | skip)
         as_aux_lemma =>
          have H' := Aside0.mk H
          clear H
          go_wp2
          go_meet
          case rel => exact ⟨_, ((t511 != 0)), (by first | rfl | (simp; done) | (simp [*]; done)), H', ⟨by have := HJ5.out; have := HJ19.out; first | omega | exact Nat.le_refl _⟩, ⟨by (with_reducible repeat (first | apply Kd.R_alloc | apply Kd.R_drewN | apply Kd.R_drew)); exact Kd.R_mono (Kd.R_far (p := ⟨gb512, 1, none⟩) (Kd.R_far (p := ⟨gb512, 0, none⟩) (Kd.R_types HO_7.out BK512.out (by decide)) (fun _ hk => hk.2) (.int .i64 t508)) (fun _ hk => hk.2) (.int .i64 t509)) (fun _ hk => trivial)⟩, ⟨by (with_reducible repeat (first | refine blk_drewN ?_ _ | refine blk_drew ?_ | refine blk_alloc ?_ _)); refine blk_far ?_ NB473_512.out _; (with_reducible repeat (first | refine blk_drewN ?_ _ | refine blk_drew ?_ | refine blk_alloc ?_ _)); refine blk_far ?_ NB473_512.out _; (with_reducible repeat (first | refine blk_drewN ?_ _ | refine blk_drew ?_ | refine blk_alloc ?_ _)); exact BK473.out⟩, ⟨by (with_reducible repeat (first | refine blk_drewN ?_ _ | refine blk_drew ?_ | refine blk_alloc ?_ _)); refine blk_far ?_ NB503_512.out _; (with_reducible repeat (first | refine blk_drewN ?_ _ | refine blk_drew ?_ | refine blk_alloc ?_ _)); refine blk_far ?_ NB503_512.out _; (with_reducible repeat (first | refine blk_drewN ?_ _ | refine blk_drew ?_ | refine blk_alloc ?_ _)); exact BK503.out⟩, ⟨by (with_reducible repeat (first | refine blk_drewN ?_ _ | refine blk_drew ?_ | refine blk_alloc ?_ _)); refine blk_put (cs := #[.int .i64 t508, .int .i64 0]) ?_ 1 _ rfl; (with_reducible repeat (first | refine blk_drewN ?_ _ | refine blk_drew ?_ | refine blk_alloc ?_ _)); refine blk_put (cs := #[.int .i64 0, .int .i64 0]) ?_ 0 _ rfl; (with_reducible repeat (first | refine blk_drewN ?_ _ | refine blk_drew ?_ | refine blk_alloc ?_ _)); exact BK512.out⟩, ⟨by repeat (first | (with_reducible first | exact HB.out | apply below_alloc | apply pw_below_drewN | apply below_drew1 | refine below_set ?_ GE473.out | refine below_set ?_ GE503.out | refine below_set ?_ GE512.out) | exact HB.out)⟩⟩
        ·rw [if_neg c60] at H
         have c60b0 : (t502 == 0) = false := beq_eq_false_iff_ne.mpr c60
         have c60b1 : (t502 != 0) = true := bne_iff_ne.mpr c60
         (first | rw [c60b0] | (simp only [i64_w, i32_w]; rw [c60b0]) | skip)
         as_aux_lemma =>
          have H' := Aside0.mk H
          clear H
          go_wp2
          go_meet
          case rel => exact ⟨_, (true), (by first | rfl | (simp; done) | (simp [*]; done)), H', ⟨by have := HJ5.out; have := HJ19.out; first | omega | exact Nat.le_refl _⟩, ⟨by (with_reducible repeat (first | apply Kd.R_alloc | apply Kd.R_drewN | apply Kd.R_drew)); exact Kd.R_mono (Kd.R_far (p := ⟨gb512, 1, none⟩) (Kd.R_far (p := ⟨gb512, 0, none⟩) (Kd.R_types HO_7.out BK512.out (by decide)) (fun _ hk => hk.2) (.int .i64 t508)) (fun _ hk => hk.2) (.int .i64 t509)) (fun _ hk => trivial)⟩, ⟨by (with_reducible repeat (first | refine blk_drewN ?_ _ | refine blk_drew ?_ | refine blk_alloc ?_ _)); refine blk_far ?_ NB473_512.out _; (with_reducible repeat (first | refine blk_drewN ?_ _ | refine blk_drew ?_ | refine blk_alloc ?_ _)); refine blk_far ?_ NB473_512.out _; (with_reducible repeat (first | refine blk_drewN ?_ _ | refine blk_drew ?_ | refine blk_alloc ?_ _)); exact BK473.out⟩, ⟨by (with_reducible repeat (first | refine blk_drewN ?_ _ | refine blk_drew ?_ | refine blk_alloc ?_ _)); refine blk_far ?_ NB503_512.out _; (with_reducible repeat (first | refine blk_drewN ?_ _ | refine blk_drew ?_ | refine blk_alloc ?_ _)); refine blk_far ?_ NB503_512.out _; (with_reducible repeat (first | refine blk_drewN ?_ _ | refine blk_drew ?_ | refine blk_alloc ?_ _)); exact BK503.out⟩, ⟨by (with_reducible repeat (first | refine blk_drewN ?_ _ | refine blk_drew ?_ | refine blk_alloc ?_ _)); refine blk_put (cs := #[.int .i64 t508, .int .i64 0]) ?_ 1 _ rfl; (with_reducible repeat (first | refine blk_drewN ?_ _ | refine blk_drew ?_ | refine blk_alloc ?_ _)); refine blk_put (cs := #[.int .i64 0, .int .i64 0]) ?_ 0 _ rfl; (with_reducible repeat (first | refine blk_drewN ?_ _ | refine blk_drew ?_ | refine blk_alloc ?_ _)); exact BK512.out⟩, ⟨by repeat (first | (with_reducible first | exact HB.out | apply below_alloc | apply pw_below_drewN | apply below_drew1 | refine below_set ?_ GE473.out | refine below_set ?_ GE503.out | refine below_set ?_ GE512.out) | exact HB.out)⟩⟩
       case rest =>
        clear HC42
        try clear c1
        try clear c2
        try clear p2
        try clear c6
        try clear c10
        try clear c28
        try clear c60
        try clear c60b0
        try clear c60b1
        obtain ⟨kq, x91_41, rfl, HA, HJ41, HO_7, BK473, BK503, BK512, HB⟩ := hcut
        cases kq with
        | zero => exact absurd HA.out (by simp [comfitlaw06_TagsFewer.j2])
        | succ kj41 =>
         have H := HA.out
         clear HA
         simp only [comfitlaw06_TagsFewer.j2] at H
         by_cases c61 : x91_41 = true
         ·subst c61
          have H1 : (if t502 = 2 then (if t511 = t502 then ((comfitlaw06_awake.f kj41).bind fun t513 => (some t513)) else (none)) else (none)) = some r := by rw [if_pos rfl] at H; exact H
          clear H
          have H := H1
          clear H1
          by_cases c62 : t502 = 2
          ·rw [if_pos c62] at H
           have c62b0 : (t502 == 2) = true := beq_iff_eq.mpr c62
           have c62b1 : (t502 != 2) = false := bne_eq_false_iff_eq.mpr c62
           clear c62
           by_cases c63 : t511 = t502
           ·rw [if_pos c63] at H
            have c63b0 : (t511 == t502) = true := beq_iff_eq.mpr c63
            have c63b1 : (t511 != t502) = false := bne_eq_false_iff_eq.mpr c63
            clear c63
            replace H := Option.bind_eq_some_iff.mp H
            obtain ⟨t513, A640, H⟩ := H
            replace H : (some t513) = some r := H
            have A64 := Aside0.mk A640
            clear A640
            as_aux_lemma =>
             obtain rfl := Option.some.inj H
             go_wp2_with (first | (go_at_call 14; (with_reducible refine (comfitlaw06_awake.calls kj41  t513 _ A64.out).mono ?_); rintro e w65 ⟨rfl, hb⟩; have n0_ := Aside0.mk (Kd.R_below (kr_ (HO_7.out)) hb); have n1_ := Aside0.mk (bkb_ BK473.out hb); have n2_ := Aside0.mk (bkb_ BK503.out hb); have n3_ := Aside0.mk (bkb_ BK512.out hb); have n4_ := Aside0.mk (below_step (hb_ HB.out) hb); clear HO_7; clear BK473; clear BK503; clear BK512; clear HB; have HO_7 := n0_; have BK473 := n1_; have BK503 := n2_; have BK512 := n3_; have HB := n4_; clear n0_ n1_ n2_ n3_ n4_; (try clear hb); (try clear hb2); (try clear hk); (try clear hi)))
             go_ret
             exact ⟨by first | rfl | (simp [errW_none, errW_some] <;> rfl) | (simp [*, errW_none, errW_some] <;> rfl), by repeat (first | (with_reducible first | exact HB.out | apply below_alloc | apply pw_below_drewN | apply below_drew1 | refine below_set ?_ GE473.out | refine below_set ?_ GE503.out | refine below_set ?_ GE512.out) | exact HB.out)⟩
           ·rw [if_neg c63] at H
            exact absurd H (by simp)
          ·rw [if_neg c62] at H
           exact absurd H (by simp)
         ·replace c61 := Bool.eq_false_iff.mpr c61
          subst c61
          have H1 : (if t498 < 0 then (comfitlaw06_TagsFewer.j3 kj41 l0 t477 t498 t501 t507 t510 true a1_0 a1_1 t499 t500 t508 t509) else (if t498 ≥ (l0.length : Int) then (comfitlaw06_TagsFewer.j3 kj41 l0 t477 t498 t501 t507 t510 true a1_0 a1_1 t499 t500 t508 t509) else (if t507 < 0 then (comfitlaw06_TagsFewer.j3 kj41 l0 t477 t498 t501 t507 t510 true a1_0 a1_1 t499 t500 t508 t509) else (comfitlaw06_TagsFewer.j3 kj41 l0 t477 t498 t501 t507 t510 (decide (t507 ≥ (t477.length : Int))) a1_0 a1_1 t499 t500 t508 t509)))) = some r := by rw [if_neg (show ¬ (false = true) by decide)] at H; exact H
          clear H
          have H := H1
          clear H1
          have HC66 := Aside0.mk H
          clear H
          go_upto_region 11 with (fail)
          go_cut [119] (fun v119 wc => ∃ (kq : Nat) (x119_65 : Bool), v119 = .bool x119_65 ∧ Aside0 (comfitlaw06_TagsFewer.j3 kq l0 t477 t498 t501 t507 t510 x119_65 a1_0 a1_1 t499 t500 t508 t509 = some r) ∧ Aside0 (kq ≤ kj41) ∧ Aside0 (Kd.R k57 57 wc w.heap.size (fun _ => True) (.slice Ao21 t477.length co21) t477) ∧ Aside0 (wc.heap[gb473]? = some (.cells #[.int .i64 a1_0, .int .i64 a1_1] 23 (0, 0))) ∧ Aside0 (wc.heap[gb503]? = some (.cells #[.int .i64 t499, .int .i64 t500] 23 (0, 0))) ∧ Aside0 (wc.heap[gb512]? = some (.cells #[.int .i64 t508, .int .i64 t509] 23 (0, 0))) ∧ Aside0 (Below w.heap.size w wc))
          case first =>
           have H := HC66.out
           clear HC66
           by_cases c67 : t498 < 0
           ·rw [if_pos c67] at H
            have c67b0 : decide (t498 < 0) = true := decide_eq_true c67
            clear c67
            (first | rw [c67b0] | (simp only [i64_w, i32_w]; rw [c67b0]) | skip)
            as_aux_lemma =>
             have H' := Aside0.mk H
             clear H
             go_wp2
             go_meet
             case rel => exact ⟨_, (true), (by first | rfl | (simp; done) | (simp [*]; done)), H', ⟨by have := HJ5.out; have := HJ19.out; have := HJ41.out; first | omega | exact Nat.le_refl _⟩, ⟨by (with_reducible repeat (first | apply Kd.R_alloc | apply Kd.R_drewN | apply Kd.R_drew)); exact HO_7.out⟩, ⟨by (with_reducible repeat (first | refine blk_drewN ?_ _ | refine blk_drew ?_ | refine blk_alloc ?_ _)); exact BK473.out⟩, ⟨by (with_reducible repeat (first | refine blk_drewN ?_ _ | refine blk_drew ?_ | refine blk_alloc ?_ _)); exact BK503.out⟩, ⟨by (with_reducible repeat (first | refine blk_drewN ?_ _ | refine blk_drew ?_ | refine blk_alloc ?_ _)); exact BK512.out⟩, ⟨by repeat (first | (with_reducible first | exact HB.out | apply below_alloc | apply pw_below_drewN | apply below_drew1 | refine below_set ?_ GE473.out | refine below_set ?_ GE503.out | refine below_set ?_ GE512.out) | exact HB.out)⟩⟩
           ·rw [if_neg c67] at H
            have c67b0 : decide (t498 < 0) = false := decide_eq_false c67
            clear c67
            (first | rw [c67b0] | (simp only [i64_w, i32_w]; rw [c67b0]) | skip)
            by_cases c68 : t498 ≥ (l0.length : Int)
            ·rw [if_pos c68] at H
             have c68b0 : decide ((l0.length : Int) ≤ t498) = true := decide_eq_true c68
             clear c68
             as_aux_lemma =>
              have H' := Aside0.mk H
              clear H
              go_wp2
              go_meet
              case rel => exact ⟨_, (true), (by first | rfl | (simp; done) | (simp [*]; done)), H', ⟨by have := HJ5.out; have := HJ19.out; have := HJ41.out; first | omega | exact Nat.le_refl _⟩, ⟨by (with_reducible repeat (first | apply Kd.R_alloc | apply Kd.R_drewN | apply Kd.R_drew)); exact HO_7.out⟩, ⟨by (with_reducible repeat (first | refine blk_drewN ?_ _ | refine blk_drew ?_ | refine blk_alloc ?_ _)); exact BK473.out⟩, ⟨by (with_reducible repeat (first | refine blk_drewN ?_ _ | refine blk_drew ?_ | refine blk_alloc ?_ _)); exact BK503.out⟩, ⟨by (with_reducible repeat (first | refine blk_drewN ?_ _ | refine blk_drew ?_ | refine blk_alloc ?_ _)); exact BK512.out⟩, ⟨by repeat (first | (with_reducible first | exact HB.out | apply below_alloc | apply pw_below_drewN | apply below_drew1 | refine below_set ?_ GE473.out | refine below_set ?_ GE503.out | refine below_set ?_ GE512.out) | exact HB.out)⟩⟩
            ·rw [if_neg c68] at H
             have c68b0 : decide ((l0.length : Int) ≤ t498) = false := decide_eq_false c68
             clear c68
             by_cases c69 : t507 < 0
             ·rw [if_pos c69] at H
              have c69b0 : decide (t507 < 0) = true := decide_eq_true c69
              clear c69
              as_aux_lemma =>
               have H' := Aside0.mk H
               clear H
               go_wp2
               go_meet
               case rel => exact ⟨_, (true), (by first | rfl | (simp; done) | (simp [*]; done)), H', ⟨by have := HJ5.out; have := HJ19.out; have := HJ41.out; first | omega | exact Nat.le_refl _⟩, ⟨by (with_reducible repeat (first | apply Kd.R_alloc | apply Kd.R_drewN | apply Kd.R_drew)); exact HO_7.out⟩, ⟨by (with_reducible repeat (first | refine blk_drewN ?_ _ | refine blk_drew ?_ | refine blk_alloc ?_ _)); exact BK473.out⟩, ⟨by (with_reducible repeat (first | refine blk_drewN ?_ _ | refine blk_drew ?_ | refine blk_alloc ?_ _)); exact BK503.out⟩, ⟨by (with_reducible repeat (first | refine blk_drewN ?_ _ | refine blk_drew ?_ | refine blk_alloc ?_ _)); exact BK512.out⟩, ⟨by repeat (first | (with_reducible first | exact HB.out | apply below_alloc | apply pw_below_drewN | apply below_drew1 | refine below_set ?_ GE473.out | refine below_set ?_ GE503.out | refine below_set ?_ GE512.out) | exact HB.out)⟩⟩
             ·rw [if_neg c69] at H
              have c69b0 : decide (t507 < 0) = false := decide_eq_false c69
              clear c69
              as_aux_lemma =>
               have H' := Aside0.mk H
               clear H
               go_wp2
               go_meet
               case rel => exact ⟨_, (decide (t507 ≥ (t477.length : Int))), (by first | rfl | (simp; done) | (simp [*]; done)), H', ⟨by have := HJ5.out; have := HJ19.out; have := HJ41.out; first | omega | exact Nat.le_refl _⟩, ⟨by (with_reducible repeat (first | apply Kd.R_alloc | apply Kd.R_drewN | apply Kd.R_drew)); exact HO_7.out⟩, ⟨by (with_reducible repeat (first | refine blk_drewN ?_ _ | refine blk_drew ?_ | refine blk_alloc ?_ _)); exact BK473.out⟩, ⟨by (with_reducible repeat (first | refine blk_drewN ?_ _ | refine blk_drew ?_ | refine blk_alloc ?_ _)); exact BK503.out⟩, ⟨by (with_reducible repeat (first | refine blk_drewN ?_ _ | refine blk_drew ?_ | refine blk_alloc ?_ _)); exact BK512.out⟩, ⟨by repeat (first | (with_reducible first | exact HB.out | apply below_alloc | apply pw_below_drewN | apply below_drew1 | refine below_set ?_ GE473.out | refine below_set ?_ GE503.out | refine below_set ?_ GE512.out) | exact HB.out)⟩⟩
          case rest =>
           clear HC66
           try clear c1
           try clear c2
           try clear p2
           try clear c6
           try clear c10
           try clear c28
           try clear c60
           try clear c60b0
           try clear c60b1
           try clear c61
           try clear c62
           try clear c62b0
           try clear c62b1
           try clear c63
           try clear c63b0
           try clear c63b1
           try clear c67
           try clear c67b0
           try clear c68
           try clear c68b0
           try clear c69
           try clear c69b0
           try clear p2
           obtain ⟨kq, x119_65, rfl, HA, HJ65, HO_7, BK473, BK503, BK512, HB⟩ := hcut
           cases kq with
           | zero => exact absurd HA.out (by simp [comfitlaw06_TagsFewer.j3])
           | succ kj65 =>
            have H := HA.out
            clear HA
            simp only [comfitlaw06_TagsFewer.j3] at H
            by_cases c70 : x119_65 = true
            ·subst c70
             have H1 : (none) = some r := by rw [if_pos rfl] at H; exact H
             clear H
             have H := H1
             clear H1
             exact absurd H (by simp)
            ·replace c70 := Bool.eq_false_iff.mpr c70
             subst c70
             have H1 : ((comfitlaw06_Of.f kj65 l0).bind fun t514 => ((tags_Ends.f kj65 t514 a1_0 a1_1).bind fun bt517 => ((tags_Ends.f kj65 t477 a1_0 a1_1).bind fun bt519 => (if (t499 == t508 && (t500 == t509)) = true then (if t501 = t510 then (if bt517.1 = bt519.1 then (if bt517.2 = bt519.2 then (if 0 ≤ t498 then (if t498 < (l0.length : Int) then ((comfitlaw06_own.f kj65 t477).bind fun t522 => (if 0 ≤ t507 then (if t507 < (t522.length : Int) then (if ((rd_T39 l0 t498).f0) = ((rd_T39 t522 t507).f0) then ((comfitlaw06_own.f kj65 t477).bind fun t527 => (if t507 < (t527.length : Int) then (if ((rd_T39 l0 t498).f1) = ((rd_T39 t527 t507).f1) then ((comfitlaw06_awake.f kj65).bind fun t531 => (some t531)) else (none)) else (none))) else (none)) else (none)) else (none))) else (none)) else (none)) else (none)) else (none)) else (none)) else (none))))) = some r := by rw [if_neg (show ¬ (false = true) by decide)] at H; exact H
             clear H
             have H := H1
             clear H1
             replace H := Option.bind_eq_some_iff.mp H
             obtain ⟨t514, A710, H⟩ := H
             replace H : ((tags_Ends.f kj65 t514 a1_0 a1_1).bind fun bt517 => ((tags_Ends.f kj65 t477 a1_0 a1_1).bind fun bt519 => (if (t499 == t508 && (t500 == t509)) = true then (if t501 = t510 then (if bt517.1 = bt519.1 then (if bt517.2 = bt519.2 then (if 0 ≤ t498 then (if t498 < (l0.length : Int) then ((comfitlaw06_own.f kj65 t477).bind fun t522 => (if 0 ≤ t507 then (if t507 < (t522.length : Int) then (if ((rd_T39 l0 t498).f0) = ((rd_T39 t522 t507).f0) then ((comfitlaw06_own.f kj65 t477).bind fun t527 => (if t507 < (t527.length : Int) then (if ((rd_T39 l0 t498).f1) = ((rd_T39 t527 t507).f1) then ((comfitlaw06_awake.f kj65).bind fun t531 => (some t531)) else (none)) else (none))) else (none)) else (none)) else (none))) else (none)) else (none)) else (none)) else (none)) else (none)) else (none)))) = some r := H
             have A71 := Aside0.mk A710
             clear A710
             replace H := Option.bind_eq_some_iff.mp H
             obtain ⟨⟨t517, t518⟩, A720, H⟩ := H
             replace H : ((tags_Ends.f kj65 t477 a1_0 a1_1).bind fun bt519 => (if (t499 == t508 && (t500 == t509)) = true then (if t501 = t510 then (if t517 = bt519.1 then (if t518 = bt519.2 then (if 0 ≤ t498 then (if t498 < (l0.length : Int) then ((comfitlaw06_own.f kj65 t477).bind fun t522 => (if 0 ≤ t507 then (if t507 < (t522.length : Int) then (if ((rd_T39 l0 t498).f0) = ((rd_T39 t522 t507).f0) then ((comfitlaw06_own.f kj65 t477).bind fun t527 => (if t507 < (t527.length : Int) then (if ((rd_T39 l0 t498).f1) = ((rd_T39 t527 t507).f1) then ((comfitlaw06_awake.f kj65).bind fun t531 => (some t531)) else (none)) else (none))) else (none)) else (none)) else (none))) else (none)) else (none)) else (none)) else (none)) else (none)) else (none))) = some r := H
             have A72 := Aside0.mk A720
             clear A720
             replace H := Option.bind_eq_some_iff.mp H
             obtain ⟨⟨t519, t520⟩, A730, H⟩ := H
             replace H : (if (t499 == t508 && (t500 == t509)) = true then (if t501 = t510 then (if t517 = t519 then (if t518 = t520 then (if 0 ≤ t498 then (if t498 < (l0.length : Int) then ((comfitlaw06_own.f kj65 t477).bind fun t522 => (if 0 ≤ t507 then (if t507 < (t522.length : Int) then (if ((rd_T39 l0 t498).f0) = ((rd_T39 t522 t507).f0) then ((comfitlaw06_own.f kj65 t477).bind fun t527 => (if t507 < (t527.length : Int) then (if ((rd_T39 l0 t498).f1) = ((rd_T39 t527 t507).f1) then ((comfitlaw06_awake.f kj65).bind fun t531 => (some t531)) else (none)) else (none))) else (none)) else (none)) else (none))) else (none)) else (none)) else (none)) else (none)) else (none)) else (none)) = some r := H
             have A73 := Aside0.mk A730
             clear A730
             by_cases c74 : (t499 == t508 && (t500 == t509)) = true
             ·rw [if_pos c74] at H
              have c74b0 : (t499 == t508 && (t500 == t509)) = true := c74
              (try (have c74b1 : decide (t499 = t508 && (t500 == t509)) = true := by simpa using c74))
              (try (have c74b2 : (t499 == t508 && (t500 == t509)) = true := by simpa using c74))
              clear c74
              by_cases c75 : t501 = t510
              ·rw [if_pos c75] at H
               have c75b0 : (t501 == t510) = true := beq_iff_eq.mpr c75
               have c75b1 : (t501 != t510) = false := bne_eq_false_iff_eq.mpr c75
               clear c75
               by_cases c76 : t517 = t519
               ·rw [if_pos c76] at H
                have c76b0 : (t517 == t519) = true := beq_iff_eq.mpr c76
                have c76b1 : (t517 != t519) = false := bne_eq_false_iff_eq.mpr c76
                clear c76
                by_cases c77 : t518 = t520
                ·rw [if_pos c77] at H
                 have c77b0 : (t518 == t520) = true := beq_iff_eq.mpr c77
                 have c77b1 : (t518 != t520) = false := bne_eq_false_iff_eq.mpr c77
                 clear c77
                 by_cases c78 : 0 ≤ t498
                 ·rw [if_pos c78] at H
                  have c78b0 : decide (0 ≤ t498) = true := decide_eq_true c78
                  clear c78
                  by_cases c79 : t498 < (l0.length : Int)
                  ·rw [if_pos c79] at H
                   have c79b0 : decide (t498 < (l0.length : Int)) = true := decide_eq_true c79
                   clear c79
                   replace H := Option.bind_eq_some_iff.mp H
                   obtain ⟨t522, A800, H⟩ := H
                   replace H : (if 0 ≤ t507 then (if t507 < (t522.length : Int) then (if ((rd_T39 l0 t498).f0) = ((rd_T39 t522 t507).f0) then ((comfitlaw06_own.f kj65 t477).bind fun t527 => (if t507 < (t527.length : Int) then (if ((rd_T39 l0 t498).f1) = ((rd_T39 t527 t507).f1) then ((comfitlaw06_awake.f kj65).bind fun t531 => (some t531)) else (none)) else (none))) else (none)) else (none)) else (none)) = some r := H
                   have A80 := Aside0.mk A800
                   clear A800
                   by_cases c81 : 0 ≤ t507
                   ·rw [if_pos c81] at H
                    have c81b0 : decide (0 ≤ t507) = true := decide_eq_true c81
                    clear c81
                    by_cases c82 : t507 < (t522.length : Int)
                    ·rw [if_pos c82] at H
                     have c82b0 : decide (t507 < (t522.length : Int)) = true := decide_eq_true c82
                     clear c82
                     by_cases c83 : ((rd_T39 l0 t498).f0) = ((rd_T39 t522 t507).f0)
                     ·rw [if_pos c83] at H
                      have c83b0 : (((rd_T39 l0 t498).f0) == ((rd_T39 t522 t507).f0)) = true := beq_iff_eq.mpr c83
                      have c83b1 : (((rd_T39 l0 t498).f0) != ((rd_T39 t522 t507).f0)) = false := bne_eq_false_iff_eq.mpr c83
                      clear c83
                      replace H := Option.bind_eq_some_iff.mp H
                      obtain ⟨t527, A840, H⟩ := H
                      replace H : (if t507 < (t527.length : Int) then (if ((rd_T39 l0 t498).f1) = ((rd_T39 t527 t507).f1) then ((comfitlaw06_awake.f kj65).bind fun t531 => (some t531)) else (none)) else (none)) = some r := H
                      have A84 := Aside0.mk A840
                      clear A840
                      by_cases c85 : t507 < (t527.length : Int)
                      ·rw [if_pos c85] at H
                       have c85b0 : decide (t507 < (t527.length : Int)) = true := decide_eq_true c85
                       clear c85
                       by_cases c86 : ((rd_T39 l0 t498).f1) = ((rd_T39 t527 t507).f1)
                       ·rw [if_pos c86] at H
                        have c86b0 : (((rd_T39 l0 t498).f1) == ((rd_T39 t527 t507).f1)) = true := beq_iff_eq.mpr c86
                        have c86b1 : (((rd_T39 l0 t498).f1) != ((rd_T39 t527 t507).f1)) = false := bne_eq_false_iff_eq.mpr c86
                        clear c86
                        replace H := Option.bind_eq_some_iff.mp H
                        obtain ⟨t531, A870, H⟩ := H
                        replace H : (some t531) = some r := H
                        have A87 := Aside0.mk A870
                        clear A870
                        as_aux_lemma =>
                         obtain rfl := Option.some.inj H
                         try go_wp2
                         have n0_ := Aside0.mk (Kd.R_drew HO_7.out)
                         have n1_ := Aside0.mk (blk_drew BK473.out)
                         have n2_ := Aside0.mk (blk_drew BK503.out)
                         have n3_ := Aside0.mk (blk_drew BK512.out)
                         have n4_ := Aside0.mk (below_drew1 HB.out)
                         clear HO_7
                         clear BK473
                         clear BK503
                         clear BK512
                         clear HB
                         have HO_7 := n0_
                         have BK473 := n1_
                         have BK503 := n2_
                         have BK512 := n3_
                         have HB := n4_
                         clear n0_ n1_ n2_ n3_ n4_
                         refine start_ (n := 9) (S := fun w' => w'.cell? ⟨gb473, 0, none⟩ = some (.int .i64 a1_0) ∧ w'.cell? ⟨gb473, 1, none⟩ = some (.int .i64 a1_1)) (ds := []) #[false, false, false, false, false, false, false, false, false] (by kernel_rfl) rfl rfl ⟨(blk_cell BK473.out 0).trans rfl, (blk_cell BK473.out 1).trans rfl⟩ (fun hHeld => ?_); refine with_tabW comfitlaw06_TagsFewer.tab13 comfitlaw06_TagsFewer.bits13 (fun HT_ HW_ => ?_)
                         generalize wc.drew = w88 at HO_7 BK473 BK503 BK512 HB hHeld ⊢
                         refine pure_ (i := 0) (N := some 121) (v := ?_) (a' := ?_) #[true, false, false, false, false, false, false, false, false] rfl rfl (any_of HT_.out (by kernel_rfl)) (fun _ _ _ h => h) (Or.inl ⟨by rfl, ?_⟩) ?_ ?_
                         rotate_left
                         ·intro w'
                          go_simp
                          with_reducible rfl
                         rotate_left
                         ·simp only [Act.put, List.setIfInBounds_toArray, List.set_cons_zero, List.set_cons_succ, i64_w, i32_w]
                          rfl
                         refine take_ (i := 2) (N := some 123) (v := ?_) (a' := ?_) #[true, false, true, false, false, false, false, false, false] rfl rfl (take_ofW HT_.out HW_.out (by kernel_rfl)) (fun _ _ _ h => h) (Or.inl ⟨by rfl, ?_⟩) hHeld ?_ ?_
                         rotate_left
                         ·rintro w' ⟨s0, s1⟩
                          go_simp
                          with_reducible rfl
                         rotate_left
                         ·simp only [Act.put, List.setIfInBounds_toArray, List.set_cons_zero, List.set_cons_succ, i64_w, i32_w]
                          rfl
                         refine one_ (i := 1) (N := some 122) #[true, true, true, false, false, false, false, false, false] rfl rfl (one_of HT_.out (by kernel_rfl)) (by decide) (fun K hK => ?_)
                         refine goes_ Try.func11 (by kernel_rfl) rfl #[.slice A0 l0.length c0] (by rfl) rfl rfl al_ ?_
                         with_reducible refine (comfitlaw06_Of.calls kj65 _ _ l0 t514 _ ?side1 ?side2 A71.out).mono ?_
                         (case side1 => exact kc_ (Kd.C_below HR0.out HB.out))
                         (case side2 => exact HC0.out)
                         rintro e w89 ⟨v515, rfl, ho0, hb⟩
                         refine ⟨_, rfl, ?_⟩
                         have n0_ := Aside0.mk (Kd.R_elder' (kr_ (HO_7.out)) (Kd.R_base ho0) hb)
                         have n1_ := Aside0.mk (Kd.R_lower (Kd.R_new' ho0 (Kd.R_lt (kr_ (HO_7.out)))) (below_size (hb_ HB.out)))
                         have n2_ := Aside0.mk (bkb_ BK473.out hb)
                         have n3_ := Aside0.mk (bkb_ BK503.out hb)
                         have n4_ := Aside0.mk (bkb_ BK512.out hb)
                         have n5_ := Aside0.mk (below_step (hb_ HB.out) hb)
                         clear HO_7
                         clear BK473
                         clear BK503
                         clear BK512
                         clear HB
                         have HO_7 := n0_
                         have HO516 := n1_
                         have BK473 := n2_
                         have BK503 := n3_
                         have BK512 := n4_
                         have HB := n5_
                         clear n0_ n1_ n2_ n3_ n4_ n5_
                         (try clear hb)
                         (try clear hb2)
                         (try clear hk)
                         (try clear hi)
                         (try clear ho0)
                         obtain ⟨Ao90, co90, eo90⟩ := Kd.R_slice HO516.out
                         (first | subst eo90 | (injection eo90 with f1_ f2_ f3_; have f4_ := f1_.symm; have f5_ := f3_.symm; clear f1_ f2_ f3_; subst f4_; subst f5_))
                         refine hK.out _ _ ⟨(blk_cell BK473.out 0).trans rfl, (blk_cell BK473.out 1).trans rfl⟩ (fun hHeld => ?_)
                         clear hK K
                         refine norm_ (a' := ?_) ?_ ?_
                         rotate_left
                         ·show Act.put _ (some 122) _ = _
                          simp only [Act.put, List.setIfInBounds_toArray, List.set_cons_zero, List.set_cons_succ, i64_w, i32_w]
                          rfl
                         refine one_ (i := 3) (N := some 124) #[true, true, true, true, false, false, false, false, false] rfl rfl (one_of HT_.out (by kernel_rfl)) (by decide) (fun K hK => ?_)
                         refine goes_ Try.func16 (by kernel_rfl) rfl #[.slice Ao90 t514.length co90, .agg #[.int .i64 a1_0, .int .i64 a1_1]] (by rfl) rfl rfl al_ ?_
                         with_reducible refine (tags_Ends.calls kj65 _ _ t514 a1_0 a1_1 t517 t518 _ ?side1 ?side2 A72.out).mono ?_
                         (case side1 => exact kc_ (Kd.R_reads' HO516.out).2.2)
                         (case side2 => exact (Kd.R_reads' HO516.out).2.1)
                         rintro e w91 ⟨rfl, hb⟩
                         refine ⟨_, rfl, ?_⟩
                         have n0_ := Aside0.mk (Kd.R_below (kr_ (HO_7.out)) hb)
                         have n1_ := Aside0.mk (Kd.R_below (kr_ (HO516.out)) hb)
                         have n2_ := Aside0.mk (bkb_ BK473.out hb)
                         have n3_ := Aside0.mk (bkb_ BK503.out hb)
                         have n4_ := Aside0.mk (bkb_ BK512.out hb)
                         have n5_ := Aside0.mk (below_step (hb_ HB.out) hb)
                         clear HO_7
                         clear HO516
                         clear BK473
                         clear BK503
                         clear BK512
                         clear HB
                         have HO_7 := n0_
                         have HO516 := n1_
                         have BK473 := n2_
                         have BK503 := n3_
                         have BK512 := n4_
                         have HB := n5_
                         clear n0_ n1_ n2_ n3_ n4_ n5_
                         (try clear hb)
                         (try clear hb2)
                         (try clear hk)
                         (try clear hi)
                         refine hK.out _ _ ⟨(blk_cell BK473.out 0).trans rfl, (blk_cell BK473.out 1).trans rfl⟩ (fun hHeld => ?_)
                         clear hK K
                         refine norm_ (a' := ?_) ?_ ?_
                         rotate_left
                         ·show Act.put _ (some 124) _ = _
                          simp only [Act.put, List.setIfInBounds_toArray, List.set_cons_zero, List.set_cons_succ, i64_w, i32_w]
                          rfl
                         refine pure_ (i := 4) (N := some 120) (v := ?_) (a' := ?_) #[true, true, true, true, true, false, false, false, false] rfl rfl (any_of HT_.out (by kernel_rfl)) (fun _ _ _ h => h) (Or.inl ⟨by rfl, ?_⟩) ?_ ?_
                         rotate_left
                         ·intro w'
                          go_simp
                          with_reducible rfl
                         rotate_left
                         ·simp only [Act.put, List.setIfInBounds_toArray, List.set_cons_zero, List.set_cons_succ, i64_w, i32_w]
                          rfl
                         refine pure_ (i := 5) (N := some 125) (v := ?_) (a' := ?_) #[true, true, true, true, true, true, false, false, false] rfl rfl (any_of HT_.out (by kernel_rfl)) (fun _ _ _ h => h) (Or.inl ⟨by rfl, ?_⟩) ?_ ?_
                         rotate_left
                         ·intro w'
                          go_simp
                          with_reducible rfl
                         rotate_left
                         ·simp only [Act.put, List.setIfInBounds_toArray, List.set_cons_zero, List.set_cons_succ, i64_w, i32_w]
                          rfl
                         refine pure_ (i := 6) (N := some 126) (v := ?_) (a' := ?_) #[true, true, true, true, true, true, true, false, false] rfl rfl (any_of HT_.out (by kernel_rfl)) (fun _ _ _ h => h) (Or.inl ⟨by rfl, ?_⟩) ?_ ?_
                         rotate_left
                         ·intro w'
                          go_simp
                          with_reducible rfl
                         rotate_left
                         ·simp only [Act.put, List.setIfInBounds_toArray, List.set_cons_zero, List.set_cons_succ, i64_w, i32_w]
                          rfl
                         refine pure_ (i := 7) (N := some 17) (v := ?_) (a' := ?_) #[true, true, true, true, true, true, true, true, false] rfl rfl (any_of HT_.out (by kernel_rfl)) (fun _ _ _ h => h) (Or.inl ⟨by rfl, ?_⟩) ?_ ?_
                         rotate_left
                         ·intro w'
                          go_simp
                          with_reducible rfl
                         rotate_left
                         ·simp only [Act.put, List.setIfInBounds_toArray, List.set_cons_zero, List.set_cons_succ, i64_w, i32_w]
                          rfl
                         refine pure_ (i := 8) (N := some 18) (v := ?_) (a' := ?_) #[true, true, true, true, true, true, true, true, true] rfl rfl (any_of HT_.out (by kernel_rfl)) (fun _ _ _ h => h) (Or.inl ⟨by rfl, ?_⟩) ?_ ?_
                         rotate_left
                         ·intro w'
                          go_simp
                          with_reducible rfl
                         rotate_left
                         ·simp only [Act.put, List.setIfInBounds_toArray, List.set_cons_zero, List.set_cons_succ, i64_w, i32_w]
                          rfl
                         refine done_ (done_of HT_.out (by kernel_rfl)) ?_
                         have hnb92 := NB473_503.out
                         have hnc92 := NB503_473.out
                         have hnb93 := NB473_512.out
                         have hnc93 := NB512_473.out
                         have hcz94_0 : w91.cell? ⟨gb473, 0, none⟩ = some (.int .i64 a1_0) := (blk_cell BK473.out 0).trans rfl
                         have hcz94_1 : w91.cell? ⟨gb473, 1, none⟩ = some (.int .i64 a1_1) := (blk_cell BK473.out 1).trans rfl
                         have hfz94_0 := blk_frozen BK473.out 0
                         have hfz94_1 := blk_frozen BK473.out 1
                         try go_wp2_with (first | ((with_reducible refine gate_callee (f := 16) rfl ?_); refine goesL_ (some 130) rfl rfl Try.func16 (by kernel_rfl) rfl #[.slice Ao21 t477.length co21, .agg #[.int .i64 a1_0, .int .i64 a1_1]] rfl al_ ?_; (with_reducible refine (tags_Ends.calls kj65 _ _ t477 a1_0 a1_1 t519 t520 _ ?side1 ?side2 A73.out).mono ?_); (case side1 => exact kc_ (Kd.R_reads' HO_7.out).2.2); (case side2 => exact (Kd.R_reads' HO_7.out).2.1); rintro e w95 ⟨rfl, hb⟩; refine ⟨_, rfl, ?_⟩; have n0_ := Aside0.mk (Kd.R_below (kr_ (HO_7.out)) hb); have n1_ := Aside0.mk (Kd.R_below (kr_ (HO516.out)) hb); have n2_ := Aside0.mk (bkb_ BK473.out hb); have n3_ := Aside0.mk (bkb_ BK503.out hb); have n4_ := Aside0.mk (bkb_ BK512.out hb); have n5_ := Aside0.mk (below_step (hb_ HB.out) hb); clear HO_7; clear HO516; clear BK473; clear BK503; clear BK512; clear HB; have HO_7 := n0_; have HO516 := n1_; have BK473 := n2_; have BK503 := n3_; have BK512 := n4_; have HB := n5_; clear n0_ n1_ n2_ n3_ n4_ n5_; (try clear hb); (try clear hb2); (try clear hk); (try clear hi)))
                         have n0_ := Aside0.mk (Kd.R_drew HO_7.out)
                         have n1_ := Aside0.mk (Kd.R_drew HO516.out)
                         have n2_ := Aside0.mk (blk_drew BK473.out)
                         have n3_ := Aside0.mk (blk_drew BK503.out)
                         have n4_ := Aside0.mk (blk_drew BK512.out)
                         have n5_ := Aside0.mk (below_drew1 HB.out)
                         clear HO_7
                         clear HO516
                         clear BK473
                         clear BK503
                         clear BK512
                         clear HB
                         have HO_7 := n0_
                         have HO516 := n1_
                         have BK473 := n2_
                         have BK503 := n3_
                         have BK512 := n4_
                         have HB := n5_
                         clear n0_ n1_ n2_ n3_ n4_ n5_
                         have p521 : 0 ≤ (t498 : Int) := of_decide_eq_true (by first | (with_reducible assumption) | assumption)
                         have q521 : t498 < (l0.length : Int) := of_decide_eq_true (by first | (with_reducible assumption) | assumption)
                         obtain ⟨ad521, e521, hx521_0, hx521_1, hx521_2, hx521_3⟩ := at_T39 HR0.out t498 p521 q521
                         have hw521_3 := hx521_3
                         have hw521_2 := hx521_2
                         have hw521_1 := hx521_1
                         have hw521_0 := hx521_0
                         cases e521
                         replace hx521_0 := (HB.out.cell (World.block_lt_of_cell? w _ hx521_0)).trans hx521_0
                         replace hx521_1 := (HB.out.cell (World.block_lt_of_cell? w _ hx521_1)).trans hx521_1
                         replace hx521_2 := (HB.out.cell (World.block_lt_of_cell? w _ hx521_2)).trans hx521_2
                         replace hx521_3 := (HB.out.cell (World.block_lt_of_cell? w _ hx521_3)).trans hx521_3
                         replace p521 := eq_true p521
                         replace q521 := eq_true q521
                         have p526 : 0 ≤ (t498 : Int) := of_decide_eq_true (by first | (with_reducible assumption) | assumption)
                         have q526 : t498 < (l0.length : Int) := of_decide_eq_true (by first | (with_reducible assumption) | assumption)
                         obtain ⟨ad526, e526, hx526_0, hx526_1, hx526_2, hx526_3⟩ := at_T39 HR0.out t498 p526 q526
                         have hw526_3 := hx526_3
                         have hw526_2 := hx526_2
                         have hw526_1 := hx526_1
                         have hw526_0 := hx526_0
                         obtain rfl : ad521 = ad526 := (by injection e526)
                         replace hx526_0 := (HB.out.cell (World.block_lt_of_cell? w _ hx526_0)).trans hx526_0
                         replace hx526_1 := (HB.out.cell (World.block_lt_of_cell? w _ hx526_1)).trans hx526_1
                         replace hx526_2 := (HB.out.cell (World.block_lt_of_cell? w _ hx526_2)).trans hx526_2
                         replace hx526_3 := (HB.out.cell (World.block_lt_of_cell? w _ hx526_3)).trans hx526_3
                         replace p526 := eq_true p526
                         replace q526 := eq_true q526
                         refine start_ (n := 50) (S := fun w' => w'.cell? ⟨gb503, 0, none⟩ = some (.int .i64 t499) ∧ w'.cell? ⟨gb503, 1, none⟩ = some (.int .i64 t500) ∧ w'.cell? ⟨gb512, 0, none⟩ = some (.int .i64 t508) ∧ w'.cell? ⟨gb512, 1, none⟩ = some (.int .i64 t509) ∧ w'.cell? (ad521.add ((t498).toNat * 4)) = some (.int .i64 ((rd_T39 l0 t498).f0)) ∧ w'.cell? ⟨(ad521.add ((t498).toNat * 4)).block, (ad521.add ((t498).toNat * 4)).off + 1, none⟩ = some (.int .i64 ((rd_T39 l0 t498).f1)) ∧ w'.cell? ⟨(ad521.add ((t498).toNat * 4)).block, (ad521.add ((t498).toNat * 4)).off + 2, none⟩ = some (.int .i64 ((rd_T39 l0 t498).f2)) ∧ w'.cell? ⟨(ad521.add ((t498).toNat * 4)).block, (ad521.add ((t498).toNat * 4)).off + 3, none⟩ = some (.int .i64 ((rd_T39 l0 t498).f3)) ∧ True ∧ True ∧ True ∧ True ∧ w'.cell? (ad521.add ((t498).toNat * 4)) = some (.int .i64 ((rd_T39 l0 t498).f0)) ∧ w'.cell? ⟨(ad521.add ((t498).toNat * 4)).block, (ad521.add ((t498).toNat * 4)).off + 1, none⟩ = some (.int .i64 ((rd_T39 l0 t498).f1)) ∧ w'.cell? ⟨(ad521.add ((t498).toNat * 4)).block, (ad521.add ((t498).toNat * 4)).off + 2, none⟩ = some (.int .i64 ((rd_T39 l0 t498).f2)) ∧ w'.cell? ⟨(ad521.add ((t498).toNat * 4)).block, (ad521.add ((t498).toNat * 4)).off + 3, none⟩ = some (.int .i64 ((rd_T39 l0 t498).f3)) ∧ True ∧ True ∧ True ∧ True) (ds := []) #[false, false, false, false, false, false, false, false, false, false, false, false, false, false, false, false, false, false, false, false, false, false, false, false, false, false, false, false, false, false, false, false, false, false, false, false, false, false, false, false, false, false, false, false, false, false, false, false, false, false] (by kernel_rfl) rfl rfl ⟨(blk_cell BK503.out 0).trans rfl, (blk_cell BK503.out 1).trans rfl, (blk_cell BK512.out 0).trans rfl, (blk_cell BK512.out 1).trans rfl, ((HB.out.cell (World.block_lt_of_cell? w _ hw521_0)).trans hw521_0), ((HB.out.cell (World.block_lt_of_cell? w _ hw521_1)).trans hw521_1), ((HB.out.cell (World.block_lt_of_cell? w _ hw521_2)).trans hw521_2), ((HB.out.cell (World.block_lt_of_cell? w _ hw521_3)).trans hw521_3), trivial, trivial, trivial, trivial, ((HB.out.cell (World.block_lt_of_cell? w _ hw526_0)).trans hw526_0), ((HB.out.cell (World.block_lt_of_cell? w _ hw526_1)).trans hw526_1), ((HB.out.cell (World.block_lt_of_cell? w _ hw526_2)).trans hw526_2), ((HB.out.cell (World.block_lt_of_cell? w _ hw526_3)).trans hw526_3), trivial, trivial, trivial, trivial⟩ (fun hHeld => ?_); refine with_tabW comfitlaw06_TagsFewer.tab15 comfitlaw06_TagsFewer.bits15 (fun HT_ HW_ => ?_)
                         generalize w95.drew = w96 at HO_7 HO516 BK473 BK503 BK512 HB hx521_0 hx521_1 hx521_2 hx521_3 hx526_0 hx526_1 hx526_2 hx526_3 hHeld ⊢
                         refine take_ (i := 0) (N := some 133) (v := ?_) (a' := ?_) #[true, false, false, false, false, false, false, false, false, false, false, false, false, false, false, false, false, false, false, false, false, false, false, false, false, false, false, false, false, false, false, false, false, false, false, false, false, false, false, false, false, false, false, false, false, false, false, false, false, false] rfl rfl (take_ofW HT_.out HW_.out (by kernel_rfl)) (fun _ _ _ h => h) (Or.inl ⟨by rfl, ?_⟩) hHeld ?_ ?_
                         rotate_left
                         ·rintro w' ⟨s0, s1, s2, s3, s4, s5, s6, s7, s8, s9, s10, s11, s12, s13, s14, s15, s16, s17, s18, s19⟩
                          go_simp
                          with_reducible rfl
                         rotate_left
                         ·simp only [Act.put, List.setIfInBounds_toArray, List.set_cons_zero, List.set_cons_succ, i64_w, i32_w]
                          rfl
                         refine take_ (i := 1) (N := some 134) (v := ?_) (a' := ?_) #[true, true, false, false, false, false, false, false, false, false, false, false, false, false, false, false, false, false, false, false, false, false, false, false, false, false, false, false, false, false, false, false, false, false, false, false, false, false, false, false, false, false, false, false, false, false, false, false, false, false] rfl rfl (take_ofW HT_.out HW_.out (by kernel_rfl)) (fun _ _ _ h => h) (Or.inl ⟨by rfl, ?_⟩) hHeld ?_ ?_
                         rotate_left
                         ·rintro w' ⟨s0, s1, s2, s3, s4, s5, s6, s7, s8, s9, s10, s11, s12, s13, s14, s15, s16, s17, s18, s19⟩
                          go_simp
                          with_reducible rfl
                         rotate_left
                         ·simp only [Act.put, List.setIfInBounds_toArray, List.set_cons_zero, List.set_cons_succ, i64_w, i32_w]
                          rfl
                         refine pure_ (i := 2) (N := some 135) (v := ?_) (a' := ?_) #[true, true, true, false, false, false, false, false, false, false, false, false, false, false, false, false, false, false, false, false, false, false, false, false, false, false, false, false, false, false, false, false, false, false, false, false, false, false, false, false, false, false, false, false, false, false, false, false, false, false] rfl rfl (any_of HT_.out (by kernel_rfl)) (fun _ _ _ h => h) (Or.inl ⟨by rfl, ?_⟩) ?_ ?_
                         rotate_left
                         ·intro w'
                          go_simp
                          with_reducible rfl
                         rotate_left
                         ·simp only [Act.put, List.setIfInBounds_toArray, List.set_cons_zero, List.set_cons_succ, i64_w, i32_w]
                          rfl
                         refine pure_ (i := 3) (N := some 136) (v := ?_) (a' := ?_) #[true, true, true, true, false, false, false, false, false, false, false, false, false, false, false, false, false, false, false, false, false, false, false, false, false, false, false, false, false, false, false, false, false, false, false, false, false, false, false, false, false, false, false, false, false, false, false, false, false, false] rfl rfl (any_of HT_.out (by kernel_rfl)) (fun _ _ _ h => h) (Or.inl ⟨by rfl, ?_⟩) ?_ ?_
                         rotate_left
                         ·intro w'
                          go_simp
                          with_reducible rfl
                         rotate_left
                         ·simp only [Act.put, List.setIfInBounds_toArray, List.set_cons_zero, List.set_cons_succ, i64_w, i32_w]
                          rfl
                         refine pure_ (i := 4) (N := some 137) (v := ?_) (a' := ?_) #[true, true, true, true, true, false, false, false, false, false, false, false, false, false, false, false, false, false, false, false, false, false, false, false, false, false, false, false, false, false, false, false, false, false, false, false, false, false, false, false, false, false, false, false, false, false, false, false, false, false] rfl rfl (any_of HT_.out (by kernel_rfl)) (fun _ _ _ h => h) (Or.inl ⟨by rfl, ?_⟩) ?_ ?_
                         rotate_left
                         ·intro w'
                          go_simp
                          with_reducible rfl
                         rotate_left
                         ·simp only [Act.put, List.setIfInBounds_toArray, List.set_cons_zero, List.set_cons_succ, i64_w, i32_w]
                          rfl
                         refine pure_ (i := 5) (N := some 138) (v := ?_) (a' := ?_) #[true, true, true, true, true, true, false, false, false, false, false, false, false, false, false, false, false, false, false, false, false, false, false, false, false, false, false, false, false, false, false, false, false, false, false, false, false, false, false, false, false, false, false, false, false, false, false, false, false, false] rfl rfl (any_of HT_.out (by kernel_rfl)) (fun _ _ _ h => h) (Or.inl ⟨by rfl, ?_⟩) ?_ ?_
                         rotate_left
                         ·intro w'
                          go_simp
                          with_reducible rfl
                         rotate_left
                         ·simp only [Act.put, List.setIfInBounds_toArray, List.set_cons_zero, List.set_cons_succ, i64_w, i32_w]
                          rfl
                         refine pure_ (i := 6) (N := some 139) (v := ?_) (a' := ?_) #[true, true, true, true, true, true, true, false, false, false, false, false, false, false, false, false, false, false, false, false, false, false, false, false, false, false, false, false, false, false, false, false, false, false, false, false, false, false, false, false, false, false, false, false, false, false, false, false, false, false] rfl rfl (any_of HT_.out (by kernel_rfl)) (fun _ _ _ h => h) (Or.inl ⟨by rfl, ?_⟩) ?_ ?_
                         rotate_left
                         ·intro w'
                          go_simp
                          with_reducible rfl
                         rotate_left
                         ·simp only [Act.put, List.setIfInBounds_toArray, List.set_cons_zero, List.set_cons_succ, i64_w, i32_w]
                          rfl
                         refine pure_ (i := 7) (N := some 140) (v := ?_) (a' := ?_) #[true, true, true, true, true, true, true, true, false, false, false, false, false, false, false, false, false, false, false, false, false, false, false, false, false, false, false, false, false, false, false, false, false, false, false, false, false, false, false, false, false, false, false, false, false, false, false, false, false, false] rfl rfl (any_of HT_.out (by kernel_rfl)) (fun _ _ _ h => h) (Or.inl ⟨by rfl, ?_⟩) ?_ ?_
                         rotate_left
                         ·intro w'
                          go_simp
                          with_reducible rfl
                         rotate_left
                         ·simp only [Act.put, List.setIfInBounds_toArray, List.set_cons_zero, List.set_cons_succ, i64_w, i32_w]
                          rfl
                         refine pure_ (i := 8) (N := some 141) (v := ?_) (a' := ?_) #[true, true, true, true, true, true, true, true, true, false, false, false, false, false, false, false, false, false, false, false, false, false, false, false, false, false, false, false, false, false, false, false, false, false, false, false, false, false, false, false, false, false, false, false, false, false, false, false, false, false] rfl rfl (any_of HT_.out (by kernel_rfl)) (fun _ _ _ h => h) (Or.inl ⟨by rfl, ?_⟩) ?_ ?_
                         rotate_left
                         ·intro w'
                          go_simp
                          with_reducible rfl
                         rotate_left
                         ·simp only [Act.put, List.setIfInBounds_toArray, List.set_cons_zero, List.set_cons_succ, i64_w, i32_w]
                          rfl
                         refine pure_ (i := 9) (N := some 142) (v := ?_) (a' := ?_) #[true, true, true, true, true, true, true, true, true, true, false, false, false, false, false, false, false, false, false, false, false, false, false, false, false, false, false, false, false, false, false, false, false, false, false, false, false, false, false, false, false, false, false, false, false, false, false, false, false, false] rfl rfl (any_of HT_.out (by kernel_rfl)) (fun _ _ _ h => h) (Or.inl ⟨by rfl, ?_⟩) ?_ ?_
                         rotate_left
                         ·intro w'
                          go_simp
                          with_reducible rfl
                         rotate_left
                         ·simp only [Act.put, List.setIfInBounds_toArray, List.set_cons_zero, List.set_cons_succ, i64_w, i32_w]
                          rfl
                         refine pure_ (i := 10) (N := some 143) (v := ?_) (a' := ?_) #[true, true, true, true, true, true, true, true, true, true, true, false, false, false, false, false, false, false, false, false, false, false, false, false, false, false, false, false, false, false, false, false, false, false, false, false, false, false, false, false, false, false, false, false, false, false, false, false, false, false] rfl rfl (any_of HT_.out (by kernel_rfl)) (fun _ _ _ h => h) (Or.inl ⟨by rfl, ?_⟩) ?_ ?_
                         rotate_left
                         ·intro w'
                          go_simp
                          with_reducible rfl
                         rotate_left
                         ·simp only [Act.put, List.setIfInBounds_toArray, List.set_cons_zero, List.set_cons_succ, i64_w, i32_w]
                          rfl
                         refine pure_ (i := 11) (N := some 144) (v := ?_) (a' := ?_) #[true, true, true, true, true, true, true, true, true, true, true, true, false, false, false, false, false, false, false, false, false, false, false, false, false, false, false, false, false, false, false, false, false, false, false, false, false, false, false, false, false, false, false, false, false, false, false, false, false, false] rfl rfl (any_of HT_.out (by kernel_rfl)) (fun _ _ _ h => h) (Or.inl ⟨by rfl, ?_⟩) ?_ ?_
                         rotate_left
                         ·intro w'
                          go_simp
                          with_reducible rfl
                         rotate_left
                         ·simp only [Act.put, List.setIfInBounds_toArray, List.set_cons_zero, List.set_cons_succ, i64_w, i32_w]
                          rfl
                         refine pure_ (i := 12) (N := some 145) (v := ?_) (a' := ?_) #[true, true, true, true, true, true, true, true, true, true, true, true, true, false, false, false, false, false, false, false, false, false, false, false, false, false, false, false, false, false, false, false, false, false, false, false, false, false, false, false, false, false, false, false, false, false, false, false, false, false] rfl rfl (any_of HT_.out (by kernel_rfl)) (fun _ _ _ h => h) (Or.inl ⟨by rfl, ?_⟩) ?_ ?_
                         rotate_left
                         ·intro w'
                          go_simp
                          with_reducible rfl
                         rotate_left
                         ·simp only [Act.put, List.setIfInBounds_toArray, List.set_cons_zero, List.set_cons_succ, i64_w, i32_w]
                          rfl
                         refine pure_ (i := 13) (N := some 146) (v := ?_) (a' := ?_) #[true, true, true, true, true, true, true, true, true, true, true, true, true, true, false, false, false, false, false, false, false, false, false, false, false, false, false, false, false, false, false, false, false, false, false, false, false, false, false, false, false, false, false, false, false, false, false, false, false, false] rfl rfl (any_of HT_.out (by kernel_rfl)) (fun _ _ _ h => h) (Or.inl ⟨by rfl, ?_⟩) ?_ ?_
                         rotate_left
                         ·intro w'
                          go_simp
                          with_reducible rfl
                         rotate_left
                         ·simp only [Act.put, List.setIfInBounds_toArray, List.set_cons_zero, List.set_cons_succ, i64_w, i32_w]
                          rfl
                         refine pure_ (i := 14) (N := some 147) (v := ?_) (a' := ?_) #[true, true, true, true, true, true, true, true, true, true, true, true, true, true, true, false, false, false, false, false, false, false, false, false, false, false, false, false, false, false, false, false, false, false, false, false, false, false, false, false, false, false, false, false, false, false, false, false, false, false] rfl rfl (any_of HT_.out (by kernel_rfl)) (fun _ _ _ h => h) (Or.inl ⟨by rfl, ?_⟩) ?_ ?_
                         rotate_left
                         ·intro w'
                          go_simp
                          with_reducible rfl
                         rotate_left
                         ·simp only [Act.put, List.setIfInBounds_toArray, List.set_cons_zero, List.set_cons_succ, i64_w, i32_w]
                          rfl
                         refine pure_ (i := 15) (N := some 148) (v := ?_) (a' := ?_) #[true, true, true, true, true, true, true, true, true, true, true, true, true, true, true, true, false, false, false, false, false, false, false, false, false, false, false, false, false, false, false, false, false, false, false, false, false, false, false, false, false, false, false, false, false, false, false, false, false, false] rfl rfl (any_of HT_.out (by kernel_rfl)) (fun _ _ _ h => h) (Or.inl ⟨by rfl, ?_⟩) ?_ ?_
                         rotate_left
                         ·intro w'
                          go_simp
                          with_reducible rfl
                         rotate_left
                         ·simp only [Act.put, List.setIfInBounds_toArray, List.set_cons_zero, List.set_cons_succ, i64_w, i32_w]
                          rfl
                         refine pure_ (i := 16) (N := some 149) (v := ?_) (a' := ?_) #[true, true, true, true, true, true, true, true, true, true, true, true, true, true, true, true, true, false, false, false, false, false, false, false, false, false, false, false, false, false, false, false, false, false, false, false, false, false, false, false, false, false, false, false, false, false, false, false, false, false] rfl rfl (any_of HT_.out (by kernel_rfl)) (fun _ _ _ h => h) (Or.inl ⟨by rfl, ?_⟩) ?_ ?_
                         rotate_left
                         ·intro w'
                          go_simp
                          with_reducible rfl
                         rotate_left
                         ·simp only [Act.put, List.setIfInBounds_toArray, List.set_cons_zero, List.set_cons_succ, i64_w, i32_w]
                          rfl
                         refine pure_ (i := 17) (N := some 150) (v := ?_) (a' := ?_) #[true, true, true, true, true, true, true, true, true, true, true, true, true, true, true, true, true, true, false, false, false, false, false, false, false, false, false, false, false, false, false, false, false, false, false, false, false, false, false, false, false, false, false, false, false, false, false, false, false, false] rfl rfl (any_of HT_.out (by kernel_rfl)) (fun _ _ _ h => h) (Or.inl ⟨by rfl, ?_⟩) ?_ ?_
                         rotate_left
                         ·intro w'
                          go_simp
                          with_reducible rfl
                         rotate_left
                         ·simp only [Act.put, List.setIfInBounds_toArray, List.set_cons_zero, List.set_cons_succ, i64_w, i32_w]
                          rfl
                         refine pure_ (i := 18) (N := some 151) (v := ?_) (a' := ?_) #[true, true, true, true, true, true, true, true, true, true, true, true, true, true, true, true, true, true, true, false, false, false, false, false, false, false, false, false, false, false, false, false, false, false, false, false, false, false, false, false, false, false, false, false, false, false, false, false, false, false] rfl rfl (any_of HT_.out (by kernel_rfl)) (fun _ _ _ h => h) (Or.inl ⟨by rfl, ?_⟩) ?_ ?_
                         rotate_left
                         ·intro w'
                          go_simp
                          with_reducible rfl
                         rotate_left
                         ·simp only [Act.put, List.setIfInBounds_toArray, List.set_cons_zero, List.set_cons_succ, i64_w, i32_w]
                          rfl
                         refine pure_ (i := 19) (N := some 152) (v := ?_) (a' := ?_) #[true, true, true, true, true, true, true, true, true, true, true, true, true, true, true, true, true, true, true, true, false, false, false, false, false, false, false, false, false, false, false, false, false, false, false, false, false, false, false, false, false, false, false, false, false, false, false, false, false, false] rfl rfl (any_of HT_.out (by kernel_rfl)) (fun _ _ _ h => h) (Or.inl ⟨by rfl, ?_⟩) ?_ ?_
                         rotate_left
                         ·intro w'
                          go_simp
                          with_reducible rfl
                         rotate_left
                         ·simp only [Act.put, List.setIfInBounds_toArray, List.set_cons_zero, List.set_cons_succ, i64_w, i32_w]
                          rfl
                         refine pure_ (i := 20) (N := some 153) (v := ?_) (a' := ?_) #[true, true, true, true, true, true, true, true, true, true, true, true, true, true, true, true, true, true, true, true, true, false, false, false, false, false, false, false, false, false, false, false, false, false, false, false, false, false, false, false, false, false, false, false, false, false, false, false, false, false] rfl rfl (any_of HT_.out (by kernel_rfl)) (fun _ _ _ h => h) (Or.inl ⟨by rfl, ?_⟩) ?_ ?_
                         rotate_left
                         ·intro w'
                          go_simp
                          with_reducible rfl
                         rotate_left
                         ·simp only [Act.put, List.setIfInBounds_toArray, List.set_cons_zero, List.set_cons_succ, i64_w, i32_w]
                          rfl
                         refine pure_ (i := 21) (N := some 154) (v := ?_) (a' := ?_) #[true, true, true, true, true, true, true, true, true, true, true, true, true, true, true, true, true, true, true, true, true, true, false, false, false, false, false, false, false, false, false, false, false, false, false, false, false, false, false, false, false, false, false, false, false, false, false, false, false, false] rfl rfl (any_of HT_.out (by kernel_rfl)) (fun _ _ _ h => h) (Or.inl ⟨by rfl, ?_⟩) ?_ ?_
                         rotate_left
                         ·intro w'
                          go_simp
                          with_reducible rfl
                         rotate_left
                         ·simp only [Act.put, List.setIfInBounds_toArray, List.set_cons_zero, List.set_cons_succ, i64_w, i32_w]
                          rfl
                         refine pure_ (i := 22) (N := some 155) (v := ?_) (a' := ?_) #[true, true, true, true, true, true, true, true, true, true, true, true, true, true, true, true, true, true, true, true, true, true, true, false, false, false, false, false, false, false, false, false, false, false, false, false, false, false, false, false, false, false, false, false, false, false, false, false, false, false] rfl rfl (any_of HT_.out (by kernel_rfl)) (fun _ _ _ h => h) (Or.inl ⟨by rfl, ?_⟩) ?_ ?_
                         rotate_left
                         ·intro w'
                          go_simp
                          with_reducible rfl
                         rotate_left
                         ·simp only [Act.put, List.setIfInBounds_toArray, List.set_cons_zero, List.set_cons_succ, i64_w, i32_w]
                          rfl
                         refine pure_ (i := 24) (N := some 157) (v := ?_) (a' := ?_) #[true, true, true, true, true, true, true, true, true, true, true, true, true, true, true, true, true, true, true, true, true, true, true, false, true, false, false, false, false, false, false, false, false, false, false, false, false, false, false, false, false, false, false, false, false, false, false, false, false, false] rfl rfl (any_of HT_.out (by kernel_rfl)) (fun _ _ _ h => h) (Or.inl ⟨by rfl, ?_⟩) ?_ ?_
                         rotate_left
                         ·intro w'
                          go_simp
                          with_reducible rfl
                         rotate_left
                         ·simp only [Act.put, List.setIfInBounds_toArray, List.set_cons_zero, List.set_cons_succ, i64_w, i32_w]
                          rfl
                         refine pure_ (i := 26) (N := some 159) (v := ?_) (a' := ?_) #[true, true, true, true, true, true, true, true, true, true, true, true, true, true, true, true, true, true, true, true, true, true, true, false, true, false, true, false, false, false, false, false, false, false, false, false, false, false, false, false, false, false, false, false, false, false, false, false, false, false] rfl rfl (any_of HT_.out (by kernel_rfl)) (fun _ _ _ h => h) (Or.inl ⟨by rfl, ?_⟩) ?_ ?_
                         rotate_left
                         ·intro w'
                          go_simp
                          with_reducible rfl
                         rotate_left
                         ·simp only [Act.put, List.setIfInBounds_toArray, List.set_cons_zero, List.set_cons_succ, i64_w, i32_w]
                          rfl
                         refine take_ (i := 23) (N := some 156) (v := ?_) (a' := ?_) #[true, true, true, true, true, true, true, true, true, true, true, true, true, true, true, true, true, true, true, true, true, true, true, true, true, false, true, false, false, false, false, false, false, false, false, false, false, false, false, false, false, false, false, false, false, false, false, false, false, false] rfl rfl (take_ofW HT_.out HW_.out (by kernel_rfl)) (fun _ _ _ h => h) (Or.inl ⟨by rfl, ?_⟩) hHeld ?_ ?_
                         rotate_left
                         ·rintro w' ⟨s0, s1, s2, s3, s4, s5, s6, s7, s8, s9, s10, s11, s12, s13, s14, s15, s16, s17, s18, s19⟩
                          go_simp
                          with_reducible rfl
                         rotate_left
                         ·simp only [Act.put, List.setIfInBounds_toArray, List.set_cons_zero, List.set_cons_succ, i64_w, i32_w]
                          rfl
                         refine one_ (i := 25) (N := some 158) #[true, true, true, true, true, true, true, true, true, true, true, true, true, true, true, true, true, true, true, true, true, true, true, true, true, true, true, false, false, false, false, false, false, false, false, false, false, false, false, false, false, false, false, false, false, false, false, false, false, false] rfl rfl (one_of HT_.out (by kernel_rfl)) (by decide) (fun K hK => ?_)
                         refine goes_ Try.func25 (by kernel_rfl) rfl #[.slice Ao21 t477.length co21] (by rfl) rfl rfl al_ ?_
                         with_reducible refine (comfitlaw06_own.calls kj65 _ _ t477 t522 _ ?side1 ?side2 A80.out).mono ?_
                         (case side1 => exact kc_ (Kd.R_reads' HO_7.out).2.2)
                         (case side2 => exact (Kd.R_reads' HO_7.out).2.1)
                         rintro e w97 ⟨v523, rfl, ho0, hb⟩
                         have HS8_ : True := trivial
                         have HS9_ : True := trivial
                         have HS10_ : True := trivial
                         have HS11_ : True := trivial
                         have HS16_ : True := trivial
                         have HS17_ : True := trivial
                         have HS18_ : True := trivial
                         have HS19_ : True := trivial
                         refine ⟨_, rfl, ?_⟩
                         have n0_ := Aside0.mk (Kd.R_below (kr_ (HO_7.out)) hb)
                         have n1_ := Aside0.mk (Kd.R_below (kr_ (HO516.out)) hb)
                         have n2_ := Aside0.mk (Kd.R_lower ho0 (below_size (hb_ HB.out)))
                         have n3_ := Aside0.mk (bkb_ BK473.out hb)
                         have n4_ := Aside0.mk (bkb_ BK503.out hb)
                         have n5_ := Aside0.mk (bkb_ BK512.out hb)
                         have n6_ := Aside0.mk (below_step (hb_ HB.out) hb)
                         clear HO_7
                         clear HO516
                         clear BK473
                         clear BK503
                         clear BK512
                         clear HB
                         have HO_7 := n0_
                         have HO516 := n1_
                         have HO524 := n2_
                         have BK473 := n3_
                         have BK503 := n4_
                         have BK512 := n5_
                         have HB := n6_
                         clear n0_ n1_ n2_ n3_ n4_ n5_ n6_
                         (try clear hb)
                         (try clear hb2)
                         (try clear hk)
                         (try clear hi)
                         (try clear ho0)
                         obtain ⟨Ao98, co98, eo98⟩ := Kd.R_slice HO524.out
                         (first | subst eo98 | (injection eo98 with f1_ f2_ f3_; have f4_ := f1_.symm; have f5_ := f3_.symm; clear f1_ f2_ f3_; subst f4_; subst f5_))
                         have p525 : 0 ≤ (t507 : Int) := of_decide_eq_true (by first | (with_reducible assumption) | assumption)
                         have q525 : t507 < (t522.length : Int) := of_decide_eq_true (by first | (with_reducible assumption) | assumption)
                         obtain ⟨ad525, e525, hx525_0, hx525_1, hx525_2, hx525_3⟩ := at_T39 (Kd.R_reads' HO524.out).2.2 t507 p525 q525
                         cases e525
                         replace p525 := eq_true p525
                         replace q525 := eq_true q525
                         refine hK.out _ _ ⟨(blk_cell BK503.out 0).trans rfl, (blk_cell BK503.out 1).trans rfl, (blk_cell BK512.out 0).trans rfl, (blk_cell BK512.out 1).trans rfl, ((HB.out.cell (World.block_lt_of_cell? w _ hw521_0)).trans hw521_0), ((HB.out.cell (World.block_lt_of_cell? w _ hw521_1)).trans hw521_1), ((HB.out.cell (World.block_lt_of_cell? w _ hw521_2)).trans hw521_2), ((HB.out.cell (World.block_lt_of_cell? w _ hw521_3)).trans hw521_3), HS8_, HS9_, HS10_, HS11_, ((HB.out.cell (World.block_lt_of_cell? w _ hw526_0)).trans hw526_0), ((HB.out.cell (World.block_lt_of_cell? w _ hw526_1)).trans hw526_1), ((HB.out.cell (World.block_lt_of_cell? w _ hw526_2)).trans hw526_2), ((HB.out.cell (World.block_lt_of_cell? w _ hw526_3)).trans hw526_3), HS16_, HS17_, HS18_, HS19_⟩ (fun hHeld => ?_)
                         refine widen_ (S' := fun w' => w'.cell? ⟨gb503, 0, none⟩ = some (.int .i64 t499) ∧ w'.cell? ⟨gb503, 1, none⟩ = some (.int .i64 t500) ∧ w'.cell? ⟨gb512, 0, none⟩ = some (.int .i64 t508) ∧ w'.cell? ⟨gb512, 1, none⟩ = some (.int .i64 t509) ∧ w'.cell? (ad521.add ((t498).toNat * 4)) = some (.int .i64 ((rd_T39 l0 t498).f0)) ∧ w'.cell? ⟨(ad521.add ((t498).toNat * 4)).block, (ad521.add ((t498).toNat * 4)).off + 1, none⟩ = some (.int .i64 ((rd_T39 l0 t498).f1)) ∧ w'.cell? ⟨(ad521.add ((t498).toNat * 4)).block, (ad521.add ((t498).toNat * 4)).off + 2, none⟩ = some (.int .i64 ((rd_T39 l0 t498).f2)) ∧ w'.cell? ⟨(ad521.add ((t498).toNat * 4)).block, (ad521.add ((t498).toNat * 4)).off + 3, none⟩ = some (.int .i64 ((rd_T39 l0 t498).f3)) ∧ w'.cell? (ad525.add ((t507).toNat * 4)) = some (.int .i64 ((rd_T39 t522 t507).f0)) ∧ w'.cell? ⟨(ad525.add ((t507).toNat * 4)).block, (ad525.add ((t507).toNat * 4)).off + 1, none⟩ = some (.int .i64 ((rd_T39 t522 t507).f1)) ∧ w'.cell? ⟨(ad525.add ((t507).toNat * 4)).block, (ad525.add ((t507).toNat * 4)).off + 2, none⟩ = some (.int .i64 ((rd_T39 t522 t507).f2)) ∧ w'.cell? ⟨(ad525.add ((t507).toNat * 4)).block, (ad525.add ((t507).toNat * 4)).off + 3, none⟩ = some (.int .i64 ((rd_T39 t522 t507).f3)) ∧ w'.cell? (ad521.add ((t498).toNat * 4)) = some (.int .i64 ((rd_T39 l0 t498).f0)) ∧ w'.cell? ⟨(ad521.add ((t498).toNat * 4)).block, (ad521.add ((t498).toNat * 4)).off + 1, none⟩ = some (.int .i64 ((rd_T39 l0 t498).f1)) ∧ w'.cell? ⟨(ad521.add ((t498).toNat * 4)).block, (ad521.add ((t498).toNat * 4)).off + 2, none⟩ = some (.int .i64 ((rd_T39 l0 t498).f2)) ∧ w'.cell? ⟨(ad521.add ((t498).toNat * 4)).block, (ad521.add ((t498).toNat * 4)).off + 3, none⟩ = some (.int .i64 ((rd_T39 l0 t498).f3)) ∧ True ∧ True ∧ True ∧ True) ⟨hHeld.1, hHeld.2.1, hHeld.2.2.1, hHeld.2.2.2.1, hHeld.2.2.2.2.1, hHeld.2.2.2.2.2.1, hHeld.2.2.2.2.2.2.1, hHeld.2.2.2.2.2.2.2.1, hx525_0, hx525_1, hx525_2, hx525_3, hHeld.2.2.2.2.2.2.2.2.2.2.2.2.1, hHeld.2.2.2.2.2.2.2.2.2.2.2.2.2.1, hHeld.2.2.2.2.2.2.2.2.2.2.2.2.2.2.1, hHeld.2.2.2.2.2.2.2.2.2.2.2.2.2.2.2.1, hHeld.2.2.2.2.2.2.2.2.2.2.2.2.2.2.2.2.1, hHeld.2.2.2.2.2.2.2.2.2.2.2.2.2.2.2.2.2.1, hHeld.2.2.2.2.2.2.2.2.2.2.2.2.2.2.2.2.2.2.1, hHeld.2.2.2.2.2.2.2.2.2.2.2.2.2.2.2.2.2.2.2⟩ (fun w' ⟨s0, s1, s2, s3, s4, s5, s6, s7, s8, s9, s10, s11, s12, s13, s14, s15, s16, s17, s18, s19⟩ => ⟨s0, s1, s2, s3, s4, s5, s6, s7, trivial, trivial, trivial, trivial, s12, s13, s14, s15, s16, s17, s18, s19⟩) (fun hHeld => ?_)
                         clear hK K
                         refine norm_ (a' := ?_) ?_ ?_
                         rotate_left
                         ·show Act.put _ (some 158) _ = _
                          simp only [Act.put, List.setIfInBounds_toArray, List.set_cons_zero, List.set_cons_succ, i64_w, i32_w]
                          rfl
                         refine pure_ (i := 27) (N := some 160) (v := ?_) (a' := ?_) #[true, true, true, true, true, true, true, true, true, true, true, true, true, true, true, true, true, true, true, true, true, true, true, true, true, true, true, true, false, false, false, false, false, false, false, false, false, false, false, false, false, false, false, false, false, false, false, false, false, false] rfl rfl (any_of HT_.out (by kernel_rfl)) (fun _ _ _ h => h) (Or.inl ⟨by rfl, ?_⟩) ?_ ?_
                         rotate_left
                         ·intro w'
                          go_simp
                          with_reducible rfl
                         rotate_left
                         ·simp only [Act.put, List.setIfInBounds_toArray, List.set_cons_zero, List.set_cons_succ, i64_w, i32_w]
                          rfl
                         refine pure_ (i := 28) (N := some 161) (v := ?_) (a' := ?_) #[true, true, true, true, true, true, true, true, true, true, true, true, true, true, true, true, true, true, true, true, true, true, true, true, true, true, true, true, true, false, false, false, false, false, false, false, false, false, false, false, false, false, false, false, false, false, false, false, false, false] rfl rfl (any_of HT_.out (by kernel_rfl)) (fun _ _ _ h => h) (Or.inl ⟨by rfl, ?_⟩) ?_ ?_
                         rotate_left
                         ·intro w'
                          go_simp
                          with_reducible rfl
                         rotate_left
                         ·simp only [Act.put, List.setIfInBounds_toArray, List.set_cons_zero, List.set_cons_succ, i64_w, i32_w]
                          rfl
                         refine take_ (i := 29) (N := some 162) (v := ?_) (a' := ?_) #[true, true, true, true, true, true, true, true, true, true, true, true, true, true, true, true, true, true, true, true, true, true, true, true, true, true, true, true, true, true, false, false, false, false, false, false, false, false, false, false, false, false, false, false, false, false, false, false, false, false] rfl rfl (take_ofW HT_.out HW_.out (by kernel_rfl)) (fun _ _ _ h => h) (Or.inl ⟨by rfl, ?_⟩) hHeld ?_ ?_
                         rotate_left
                         ·rintro w' ⟨s0, s1, s2, s3, s4, s5, s6, s7, s8, s9, s10, s11, s12, s13, s14, s15, s16, s17, s18, s19⟩
                          go_simp
                          with_reducible rfl
                         rotate_left
                         ·simp only [Act.put, List.setIfInBounds_toArray, List.set_cons_zero, List.set_cons_succ, i64_w, i32_w]
                          rfl
                         refine pure_ (i := 30) (N := some 163) (v := ?_) (a' := ?_) #[true, true, true, true, true, true, true, true, true, true, true, true, true, true, true, true, true, true, true, true, true, true, true, true, true, true, true, true, true, true, true, false, false, false, false, false, false, false, false, false, false, false, false, false, false, false, false, false, false, false] rfl rfl (any_of HT_.out (by kernel_rfl)) (fun _ _ _ h => h) (Or.inl ⟨by rfl, ?_⟩) ?_ ?_
                         rotate_left
                         ·intro w'
                          go_simp
                          with_reducible rfl
                         rotate_left
                         ·simp only [Act.put, List.setIfInBounds_toArray, List.set_cons_zero, List.set_cons_succ, i64_w, i32_w]
                          rfl
                         refine pure_ (i := 31) (N := some 164) (v := ?_) (a' := ?_) #[true, true, true, true, true, true, true, true, true, true, true, true, true, true, true, true, true, true, true, true, true, true, true, true, true, true, true, true, true, true, true, true, false, false, false, false, false, false, false, false, false, false, false, false, false, false, false, false, false, false] rfl rfl (any_of HT_.out (by kernel_rfl)) (fun _ _ _ h => h) (Or.inl ⟨by rfl, ?_⟩) ?_ ?_
                         rotate_left
                         ·intro w'
                          go_simp
                          with_reducible rfl
                         rotate_left
                         ·simp only [Act.put, List.setIfInBounds_toArray, List.set_cons_zero, List.set_cons_succ, i64_w, i32_w]
                          rfl
                         refine pure_ (i := 32) (N := some 165) (v := ?_) (a' := ?_) #[true, true, true, true, true, true, true, true, true, true, true, true, true, true, true, true, true, true, true, true, true, true, true, true, true, true, true, true, true, true, true, true, true, false, false, false, false, false, false, false, false, false, false, false, false, false, false, false, false, false] rfl rfl (any_of HT_.out (by kernel_rfl)) (fun _ _ _ h => h) (Or.inl ⟨by rfl, ?_⟩) ?_ ?_
                         rotate_left
                         ·intro w'
                          go_simp
                          with_reducible rfl
                         rotate_left
                         ·simp only [Act.put, List.setIfInBounds_toArray, List.set_cons_zero, List.set_cons_succ, i64_w, i32_w]
                          rfl
                         refine pure_ (i := 33) (N := some 166) (v := ?_) (a' := ?_) #[true, true, true, true, true, true, true, true, true, true, true, true, true, true, true, true, true, true, true, true, true, true, true, true, true, true, true, true, true, true, true, true, true, true, false, false, false, false, false, false, false, false, false, false, false, false, false, false, false, false] rfl rfl (any_of HT_.out (by kernel_rfl)) (fun _ _ _ h => h) (Or.inl ⟨by rfl, ?_⟩) ?_ ?_
                         rotate_left
                         ·intro w'
                          go_simp
                          with_reducible rfl
                         rotate_left
                         ·simp only [Act.put, List.setIfInBounds_toArray, List.set_cons_zero, List.set_cons_succ, i64_w, i32_w]
                          rfl
                         refine pure_ (i := 34) (N := some 167) (v := ?_) (a' := ?_) #[true, true, true, true, true, true, true, true, true, true, true, true, true, true, true, true, true, true, true, true, true, true, true, true, true, true, true, true, true, true, true, true, true, true, true, false, false, false, false, false, false, false, false, false, false, false, false, false, false, false] rfl rfl (any_of HT_.out (by kernel_rfl)) (fun _ _ _ h => h) (Or.inl ⟨by rfl, ?_⟩) ?_ ?_
                         rotate_left
                         ·intro w'
                          go_simp
                          with_reducible rfl
                         rotate_left
                         ·simp only [Act.put, List.setIfInBounds_toArray, List.set_cons_zero, List.set_cons_succ, i64_w, i32_w]
                          rfl
                         refine pure_ (i := 35) (N := some 168) (v := ?_) (a' := ?_) #[true, true, true, true, true, true, true, true, true, true, true, true, true, true, true, true, true, true, true, true, true, true, true, true, true, true, true, true, true, true, true, true, true, true, true, true, false, false, false, false, false, false, false, false, false, false, false, false, false, false] rfl rfl (any_of HT_.out (by kernel_rfl)) (fun _ _ _ h => h) (Or.inl ⟨by rfl, ?_⟩) ?_ ?_
                         rotate_left
                         ·intro w'
                          go_simp
                          with_reducible rfl
                         rotate_left
                         ·simp only [Act.put, List.setIfInBounds_toArray, List.set_cons_zero, List.set_cons_succ, i64_w, i32_w]
                          rfl
                         refine pure_ (i := 36) (N := some 169) (v := ?_) (a' := ?_) #[true, true, true, true, true, true, true, true, true, true, true, true, true, true, true, true, true, true, true, true, true, true, true, true, true, true, true, true, true, true, true, true, true, true, true, true, true, false, false, false, false, false, false, false, false, false, false, false, false, false] rfl rfl (any_of HT_.out (by kernel_rfl)) (fun _ _ _ h => h) (Or.inl ⟨by rfl, ?_⟩) ?_ ?_
                         rotate_left
                         ·intro w'
                          go_simp
                          with_reducible rfl
                         rotate_left
                         ·simp only [Act.put, List.setIfInBounds_toArray, List.set_cons_zero, List.set_cons_succ, i64_w, i32_w]
                          rfl
                         refine pure_ (i := 38) (N := some 171) (v := ?_) (a' := ?_) #[true, true, true, true, true, true, true, true, true, true, true, true, true, true, true, true, true, true, true, true, true, true, true, true, true, true, true, true, true, true, true, true, true, true, true, true, true, false, true, false, false, false, false, false, false, false, false, false, false, false] rfl rfl (any_of HT_.out (by kernel_rfl)) (fun _ _ _ h => h) (Or.inl ⟨by rfl, ?_⟩) ?_ ?_
                         rotate_left
                         ·intro w'
                          go_simp
                          with_reducible rfl
                         rotate_left
                         ·simp only [Act.put, List.setIfInBounds_toArray, List.set_cons_zero, List.set_cons_succ, i64_w, i32_w]
                          rfl
                         refine pure_ (i := 40) (N := some 173) (v := ?_) (a' := ?_) #[true, true, true, true, true, true, true, true, true, true, true, true, true, true, true, true, true, true, true, true, true, true, true, true, true, true, true, true, true, true, true, true, true, true, true, true, true, false, true, false, true, false, false, false, false, false, false, false, false, false] rfl rfl (any_of HT_.out (by kernel_rfl)) (fun _ _ _ h => h) (Or.inl ⟨by rfl, ?_⟩) ?_ ?_
                         rotate_left
                         ·intro w'
                          go_simp
                          with_reducible rfl
                         rotate_left
                         ·simp only [Act.put, List.setIfInBounds_toArray, List.set_cons_zero, List.set_cons_succ, i64_w, i32_w]
                          rfl
                         refine take_ (i := 37) (N := some 170) (v := ?_) (a' := ?_) #[true, true, true, true, true, true, true, true, true, true, true, true, true, true, true, true, true, true, true, true, true, true, true, true, true, true, true, true, true, true, true, true, true, true, true, true, true, true, true, false, true, false, false, false, false, false, false, false, false, false] rfl rfl (take_ofW HT_.out HW_.out (by kernel_rfl)) (fun _ _ _ h => h) (Or.inl ⟨by rfl, ?_⟩) hHeld ?_ ?_
                         rotate_left
                         ·rintro w' ⟨s0, s1, s2, s3, s4, s5, s6, s7, s8, s9, s10, s11, s12, s13, s14, s15, s16, s17, s18, s19⟩
                          go_simp
                          with_reducible rfl
                         rotate_left
                         ·simp only [Act.put, List.setIfInBounds_toArray, List.set_cons_zero, List.set_cons_succ, i64_w, i32_w]
                          rfl
                         refine one_ (i := 39) (N := some 172) #[true, true, true, true, true, true, true, true, true, true, true, true, true, true, true, true, true, true, true, true, true, true, true, true, true, true, true, true, true, true, true, true, true, true, true, true, true, true, true, true, true, false, false, false, false, false, false, false, false, false] rfl rfl (one_of HT_.out (by kernel_rfl)) (by decide) (fun K hK => ?_)
                         refine goes_ Try.func25 (by kernel_rfl) rfl #[.slice Ao21 t477.length co21] (by rfl) rfl rfl al_ ?_
                         with_reducible refine (comfitlaw06_own.calls kj65 _ _ t477 t527 _ ?side1 ?side2 A84.out).mono ?_
                         (case side1 => exact kc_ (Kd.R_reads' HO_7.out).2.2)
                         (case side2 => exact (Kd.R_reads' HO_7.out).2.1)
                         rintro e w99 ⟨v528, rfl, ho0, hb⟩
                         have HS8_ := (hb.cell (World.block_lt_of_cell? _ _ (hHeld.2.2.2.2.2.2.2.2.1))).trans (hHeld.2.2.2.2.2.2.2.2.1)
                         have HS9_ := (hb.cell (World.block_lt_of_cell? _ _ (hHeld.2.2.2.2.2.2.2.2.2.1))).trans (hHeld.2.2.2.2.2.2.2.2.2.1)
                         have HS10_ := (hb.cell (World.block_lt_of_cell? _ _ (hHeld.2.2.2.2.2.2.2.2.2.2.1))).trans (hHeld.2.2.2.2.2.2.2.2.2.2.1)
                         have HS11_ := (hb.cell (World.block_lt_of_cell? _ _ (hHeld.2.2.2.2.2.2.2.2.2.2.2.1))).trans (hHeld.2.2.2.2.2.2.2.2.2.2.2.1)
                         have HS16_ : True := trivial
                         have HS17_ : True := trivial
                         have HS18_ : True := trivial
                         have HS19_ : True := trivial
                         refine ⟨_, rfl, ?_⟩
                         have n0_ := Aside0.mk (Kd.R_below (kr_ (HO_7.out)) hb)
                         have n1_ := Aside0.mk (Kd.R_below (kr_ (HO516.out)) hb)
                         have n2_ := Aside0.mk (Kd.R_elder' (kr_ (HO524.out)) (Kd.R_base ho0) hb)
                         have n3_ := Aside0.mk (Kd.R_lower (Kd.R_new' ho0 (Kd.R_lt (kr_ (HO524.out)))) (below_size (hb_ HB.out)))
                         have n4_ := Aside0.mk (bkb_ BK473.out hb)
                         have n5_ := Aside0.mk (bkb_ BK503.out hb)
                         have n6_ := Aside0.mk (bkb_ BK512.out hb)
                         have n7_ := Aside0.mk (below_step (hb_ HB.out) hb)
                         clear HO_7
                         clear HO516
                         clear HO524
                         clear BK473
                         clear BK503
                         clear BK512
                         clear HB
                         have HO_7 := n0_
                         have HO516 := n1_
                         have HO524 := n2_
                         have HO529 := n3_
                         have BK473 := n4_
                         have BK503 := n5_
                         have BK512 := n6_
                         have HB := n7_
                         clear n0_ n1_ n2_ n3_ n4_ n5_ n6_ n7_
                         (try clear hb)
                         (try clear hb2)
                         (try clear hk)
                         (try clear hi)
                         (try clear ho0)
                         obtain ⟨Ao100, co100, eo100⟩ := Kd.R_slice HO529.out
                         (first | subst eo100 | (injection eo100 with f1_ f2_ f3_; have f4_ := f1_.symm; have f5_ := f3_.symm; clear f1_ f2_ f3_; subst f4_; subst f5_))
                         have p530 : 0 ≤ (t507 : Int) := of_decide_eq_true (by first | (with_reducible assumption) | assumption)
                         have q530 : t507 < (t527.length : Int) := of_decide_eq_true (by first | (with_reducible assumption) | assumption)
                         obtain ⟨ad530, e530, hx530_0, hx530_1, hx530_2, hx530_3⟩ := at_T39 (Kd.R_reads' HO529.out).2.2 t507 p530 q530
                         cases e530
                         replace p530 := eq_true p530
                         replace q530 := eq_true q530
                         refine hK.out _ _ ⟨(blk_cell BK503.out 0).trans rfl, (blk_cell BK503.out 1).trans rfl, (blk_cell BK512.out 0).trans rfl, (blk_cell BK512.out 1).trans rfl, ((HB.out.cell (World.block_lt_of_cell? w _ hw521_0)).trans hw521_0), ((HB.out.cell (World.block_lt_of_cell? w _ hw521_1)).trans hw521_1), ((HB.out.cell (World.block_lt_of_cell? w _ hw521_2)).trans hw521_2), ((HB.out.cell (World.block_lt_of_cell? w _ hw521_3)).trans hw521_3), HS8_, HS9_, HS10_, HS11_, ((HB.out.cell (World.block_lt_of_cell? w _ hw526_0)).trans hw526_0), ((HB.out.cell (World.block_lt_of_cell? w _ hw526_1)).trans hw526_1), ((HB.out.cell (World.block_lt_of_cell? w _ hw526_2)).trans hw526_2), ((HB.out.cell (World.block_lt_of_cell? w _ hw526_3)).trans hw526_3), HS16_, HS17_, HS18_, HS19_⟩ (fun hHeld => ?_)
                         refine widen_ (S' := fun w' => w'.cell? ⟨gb503, 0, none⟩ = some (.int .i64 t499) ∧ w'.cell? ⟨gb503, 1, none⟩ = some (.int .i64 t500) ∧ w'.cell? ⟨gb512, 0, none⟩ = some (.int .i64 t508) ∧ w'.cell? ⟨gb512, 1, none⟩ = some (.int .i64 t509) ∧ w'.cell? (ad521.add ((t498).toNat * 4)) = some (.int .i64 ((rd_T39 l0 t498).f0)) ∧ w'.cell? ⟨(ad521.add ((t498).toNat * 4)).block, (ad521.add ((t498).toNat * 4)).off + 1, none⟩ = some (.int .i64 ((rd_T39 l0 t498).f1)) ∧ w'.cell? ⟨(ad521.add ((t498).toNat * 4)).block, (ad521.add ((t498).toNat * 4)).off + 2, none⟩ = some (.int .i64 ((rd_T39 l0 t498).f2)) ∧ w'.cell? ⟨(ad521.add ((t498).toNat * 4)).block, (ad521.add ((t498).toNat * 4)).off + 3, none⟩ = some (.int .i64 ((rd_T39 l0 t498).f3)) ∧ w'.cell? (ad525.add ((t507).toNat * 4)) = some (.int .i64 ((rd_T39 t522 t507).f0)) ∧ w'.cell? ⟨(ad525.add ((t507).toNat * 4)).block, (ad525.add ((t507).toNat * 4)).off + 1, none⟩ = some (.int .i64 ((rd_T39 t522 t507).f1)) ∧ w'.cell? ⟨(ad525.add ((t507).toNat * 4)).block, (ad525.add ((t507).toNat * 4)).off + 2, none⟩ = some (.int .i64 ((rd_T39 t522 t507).f2)) ∧ w'.cell? ⟨(ad525.add ((t507).toNat * 4)).block, (ad525.add ((t507).toNat * 4)).off + 3, none⟩ = some (.int .i64 ((rd_T39 t522 t507).f3)) ∧ w'.cell? (ad521.add ((t498).toNat * 4)) = some (.int .i64 ((rd_T39 l0 t498).f0)) ∧ w'.cell? ⟨(ad521.add ((t498).toNat * 4)).block, (ad521.add ((t498).toNat * 4)).off + 1, none⟩ = some (.int .i64 ((rd_T39 l0 t498).f1)) ∧ w'.cell? ⟨(ad521.add ((t498).toNat * 4)).block, (ad521.add ((t498).toNat * 4)).off + 2, none⟩ = some (.int .i64 ((rd_T39 l0 t498).f2)) ∧ w'.cell? ⟨(ad521.add ((t498).toNat * 4)).block, (ad521.add ((t498).toNat * 4)).off + 3, none⟩ = some (.int .i64 ((rd_T39 l0 t498).f3)) ∧ w'.cell? (ad530.add ((t507).toNat * 4)) = some (.int .i64 ((rd_T39 t527 t507).f0)) ∧ w'.cell? ⟨(ad530.add ((t507).toNat * 4)).block, (ad530.add ((t507).toNat * 4)).off + 1, none⟩ = some (.int .i64 ((rd_T39 t527 t507).f1)) ∧ w'.cell? ⟨(ad530.add ((t507).toNat * 4)).block, (ad530.add ((t507).toNat * 4)).off + 2, none⟩ = some (.int .i64 ((rd_T39 t527 t507).f2)) ∧ w'.cell? ⟨(ad530.add ((t507).toNat * 4)).block, (ad530.add ((t507).toNat * 4)).off + 3, none⟩ = some (.int .i64 ((rd_T39 t527 t507).f3))) ⟨hHeld.1, hHeld.2.1, hHeld.2.2.1, hHeld.2.2.2.1, hHeld.2.2.2.2.1, hHeld.2.2.2.2.2.1, hHeld.2.2.2.2.2.2.1, hHeld.2.2.2.2.2.2.2.1, hHeld.2.2.2.2.2.2.2.2.1, hHeld.2.2.2.2.2.2.2.2.2.1, hHeld.2.2.2.2.2.2.2.2.2.2.1, hHeld.2.2.2.2.2.2.2.2.2.2.2.1, hHeld.2.2.2.2.2.2.2.2.2.2.2.2.1, hHeld.2.2.2.2.2.2.2.2.2.2.2.2.2.1, hHeld.2.2.2.2.2.2.2.2.2.2.2.2.2.2.1, hHeld.2.2.2.2.2.2.2.2.2.2.2.2.2.2.2.1, hx530_0, hx530_1, hx530_2, hx530_3⟩ (fun w' ⟨s0, s1, s2, s3, s4, s5, s6, s7, s8, s9, s10, s11, s12, s13, s14, s15, s16, s17, s18, s19⟩ => ⟨s0, s1, s2, s3, s4, s5, s6, s7, s8, s9, s10, s11, s12, s13, s14, s15, trivial, trivial, trivial, trivial⟩) (fun hHeld => ?_)
                         clear hK K
                         refine norm_ (a' := ?_) ?_ ?_
                         rotate_left
                         ·show Act.put _ (some 172) _ = _
                          simp only [Act.put, List.setIfInBounds_toArray, List.set_cons_zero, List.set_cons_succ, i64_w, i32_w]
                          rfl
                         refine pure_ (i := 41) (N := some 174) (v := ?_) (a' := ?_) #[true, true, true, true, true, true, true, true, true, true, true, true, true, true, true, true, true, true, true, true, true, true, true, true, true, true, true, true, true, true, true, true, true, true, true, true, true, true, true, true, true, true, false, false, false, false, false, false, false, false] rfl rfl (any_of HT_.out (by kernel_rfl)) (fun _ _ _ h => h) (Or.inl ⟨by rfl, ?_⟩) ?_ ?_
                         rotate_left
                         ·intro w'
                          go_simp
                          with_reducible rfl
                         rotate_left
                         ·simp only [Act.put, List.setIfInBounds_toArray, List.set_cons_zero, List.set_cons_succ, i64_w, i32_w]
                          rfl
                         refine pure_ (i := 42) (N := some 175) (v := ?_) (a' := ?_) #[true, true, true, true, true, true, true, true, true, true, true, true, true, true, true, true, true, true, true, true, true, true, true, true, true, true, true, true, true, true, true, true, true, true, true, true, true, true, true, true, true, true, true, false, false, false, false, false, false, false] rfl rfl (any_of HT_.out (by kernel_rfl)) (fun _ _ _ h => h) (Or.inl ⟨by rfl, ?_⟩) ?_ ?_
                         rotate_left
                         ·intro w'
                          go_simp
                          with_reducible rfl
                         rotate_left
                         ·simp only [Act.put, List.setIfInBounds_toArray, List.set_cons_zero, List.set_cons_succ, i64_w, i32_w]
                          rfl
                         refine take_ (i := 43) (N := some 176) (v := ?_) (a' := ?_) #[true, true, true, true, true, true, true, true, true, true, true, true, true, true, true, true, true, true, true, true, true, true, true, true, true, true, true, true, true, true, true, true, true, true, true, true, true, true, true, true, true, true, true, true, false, false, false, false, false, false] rfl rfl (take_ofW HT_.out HW_.out (by kernel_rfl)) (fun _ _ _ h => h) (Or.inl ⟨by rfl, ?_⟩) hHeld ?_ ?_
                         rotate_left
                         ·rintro w' ⟨s0, s1, s2, s3, s4, s5, s6, s7, s8, s9, s10, s11, s12, s13, s14, s15, s16, s17, s18, s19⟩
                          go_simp
                          with_reducible rfl
                         rotate_left
                         ·simp only [Act.put, List.setIfInBounds_toArray, List.set_cons_zero, List.set_cons_succ, i64_w, i32_w]
                          rfl
                         refine pure_ (i := 44) (N := some 177) (v := ?_) (a' := ?_) #[true, true, true, true, true, true, true, true, true, true, true, true, true, true, true, true, true, true, true, true, true, true, true, true, true, true, true, true, true, true, true, true, true, true, true, true, true, true, true, true, true, true, true, true, true, false, false, false, false, false] rfl rfl (any_of HT_.out (by kernel_rfl)) (fun _ _ _ h => h) (Or.inl ⟨by rfl, ?_⟩) ?_ ?_
                         rotate_left
                         ·intro w'
                          go_simp
                          with_reducible rfl
                         rotate_left
                         ·simp only [Act.put, List.setIfInBounds_toArray, List.set_cons_zero, List.set_cons_succ, i64_w, i32_w]
                          rfl
                         refine pure_ (i := 45) (N := some 178) (v := ?_) (a' := ?_) #[true, true, true, true, true, true, true, true, true, true, true, true, true, true, true, true, true, true, true, true, true, true, true, true, true, true, true, true, true, true, true, true, true, true, true, true, true, true, true, true, true, true, true, true, true, true, false, false, false, false] rfl rfl (any_of HT_.out (by kernel_rfl)) (fun _ _ _ h => h) (Or.inl ⟨by rfl, ?_⟩) ?_ ?_
                         rotate_left
                         ·intro w'
                          go_simp
                          with_reducible rfl
                         rotate_left
                         ·simp only [Act.put, List.setIfInBounds_toArray, List.set_cons_zero, List.set_cons_succ, i64_w, i32_w]
                          rfl
                         refine pure_ (i := 46) (N := some 179) (v := ?_) (a' := ?_) #[true, true, true, true, true, true, true, true, true, true, true, true, true, true, true, true, true, true, true, true, true, true, true, true, true, true, true, true, true, true, true, true, true, true, true, true, true, true, true, true, true, true, true, true, true, true, true, false, false, false] rfl rfl (any_of HT_.out (by kernel_rfl)) (fun _ _ _ h => h) (Or.inl ⟨by rfl, ?_⟩) ?_ ?_
                         rotate_left
                         ·intro w'
                          go_simp
                          with_reducible rfl
                         rotate_left
                         ·simp only [Act.put, List.setIfInBounds_toArray, List.set_cons_zero, List.set_cons_succ, i64_w, i32_w]
                          rfl
                         refine one_ (i := 47) (N := some 180) #[true, true, true, true, true, true, true, true, true, true, true, true, true, true, true, true, true, true, true, true, true, true, true, true, true, true, true, true, true, true, true, true, true, true, true, true, true, true, true, true, true, true, true, true, true, true, true, true, false, false] rfl rfl (one_of HT_.out (by kernel_rfl)) (by decide) (fun K hK => ?_)
                         refine goes_ Try.func14 (by kernel_rfl) rfl #[] (by rfl) rfl rfl al_ ?_
                         with_reducible refine (comfitlaw06_awake.calls kj65  t531 _ A87.out).mono ?_
                         rintro e w101 ⟨rfl, hb⟩
                         have HS8_ := (hb.cell (World.block_lt_of_cell? _ _ (hHeld.2.2.2.2.2.2.2.2.1))).trans (hHeld.2.2.2.2.2.2.2.2.1)
                         have HS9_ := (hb.cell (World.block_lt_of_cell? _ _ (hHeld.2.2.2.2.2.2.2.2.2.1))).trans (hHeld.2.2.2.2.2.2.2.2.2.1)
                         have HS10_ := (hb.cell (World.block_lt_of_cell? _ _ (hHeld.2.2.2.2.2.2.2.2.2.2.1))).trans (hHeld.2.2.2.2.2.2.2.2.2.2.1)
                         have HS11_ := (hb.cell (World.block_lt_of_cell? _ _ (hHeld.2.2.2.2.2.2.2.2.2.2.2.1))).trans (hHeld.2.2.2.2.2.2.2.2.2.2.2.1)
                         have HS16_ := (hb.cell (World.block_lt_of_cell? _ _ (hHeld.2.2.2.2.2.2.2.2.2.2.2.2.2.2.2.2.1))).trans (hHeld.2.2.2.2.2.2.2.2.2.2.2.2.2.2.2.2.1)
                         have HS17_ := (hb.cell (World.block_lt_of_cell? _ _ (hHeld.2.2.2.2.2.2.2.2.2.2.2.2.2.2.2.2.2.1))).trans (hHeld.2.2.2.2.2.2.2.2.2.2.2.2.2.2.2.2.2.1)
                         have HS18_ := (hb.cell (World.block_lt_of_cell? _ _ (hHeld.2.2.2.2.2.2.2.2.2.2.2.2.2.2.2.2.2.2.1))).trans (hHeld.2.2.2.2.2.2.2.2.2.2.2.2.2.2.2.2.2.2.1)
                         have HS19_ := (hb.cell (World.block_lt_of_cell? _ _ (hHeld.2.2.2.2.2.2.2.2.2.2.2.2.2.2.2.2.2.2.2))).trans (hHeld.2.2.2.2.2.2.2.2.2.2.2.2.2.2.2.2.2.2.2)
                         refine ⟨_, rfl, ?_⟩
                         have n0_ := Aside0.mk (Kd.R_below (kr_ (HO_7.out)) hb)
                         have n1_ := Aside0.mk (Kd.R_below (kr_ (HO516.out)) hb)
                         have n2_ := Aside0.mk (Kd.R_below (kr_ (HO524.out)) hb)
                         have n3_ := Aside0.mk (Kd.R_below (kr_ (HO529.out)) hb)
                         have n4_ := Aside0.mk (bkb_ BK473.out hb)
                         have n5_ := Aside0.mk (bkb_ BK503.out hb)
                         have n6_ := Aside0.mk (bkb_ BK512.out hb)
                         have n7_ := Aside0.mk (below_step (hb_ HB.out) hb)
                         clear HO_7
                         clear HO516
                         clear HO524
                         clear HO529
                         clear BK473
                         clear BK503
                         clear BK512
                         clear HB
                         have HO_7 := n0_
                         have HO516 := n1_
                         have HO524 := n2_
                         have HO529 := n3_
                         have BK473 := n4_
                         have BK503 := n5_
                         have BK512 := n6_
                         have HB := n7_
                         clear n0_ n1_ n2_ n3_ n4_ n5_ n6_ n7_
                         (try clear hb)
                         (try clear hb2)
                         (try clear hk)
                         (try clear hi)
                         refine hK.out _ _ ⟨(blk_cell BK503.out 0).trans rfl, (blk_cell BK503.out 1).trans rfl, (blk_cell BK512.out 0).trans rfl, (blk_cell BK512.out 1).trans rfl, ((HB.out.cell (World.block_lt_of_cell? w _ hw521_0)).trans hw521_0), ((HB.out.cell (World.block_lt_of_cell? w _ hw521_1)).trans hw521_1), ((HB.out.cell (World.block_lt_of_cell? w _ hw521_2)).trans hw521_2), ((HB.out.cell (World.block_lt_of_cell? w _ hw521_3)).trans hw521_3), HS8_, HS9_, HS10_, HS11_, ((HB.out.cell (World.block_lt_of_cell? w _ hw526_0)).trans hw526_0), ((HB.out.cell (World.block_lt_of_cell? w _ hw526_1)).trans hw526_1), ((HB.out.cell (World.block_lt_of_cell? w _ hw526_2)).trans hw526_2), ((HB.out.cell (World.block_lt_of_cell? w _ hw526_3)).trans hw526_3), HS16_, HS17_, HS18_, HS19_⟩ (fun hHeld => ?_)
                         clear hK K
                         refine norm_ (a' := ?_) ?_ ?_
                         rotate_left
                         ·show Act.put _ (some 180) _ = _
                          simp only [Act.put, List.setIfInBounds_toArray, List.set_cons_zero, List.set_cons_succ, i64_w, i32_w]
                          rfl
                         refine pure_ (i := 48) (N := some 181) (v := ?_) (a' := ?_) #[true, true, true, true, true, true, true, true, true, true, true, true, true, true, true, true, true, true, true, true, true, true, true, true, true, true, true, true, true, true, true, true, true, true, true, true, true, true, true, true, true, true, true, true, true, true, true, true, true, false] rfl rfl (any_of HT_.out (by kernel_rfl)) (fun _ _ _ h => h) (Or.inl ⟨by rfl, ?_⟩) ?_ ?_
                         rotate_left
                         ·intro w'
                          go_simp
                          with_reducible rfl
                         rotate_left
                         ·simp only [Act.put, List.setIfInBounds_toArray, List.set_cons_zero, List.set_cons_succ, i64_w, i32_w]
                          rfl
                         refine pure_ (i := 49) (N := some 6) (v := ?_) (a' := ?_) #[true, true, true, true, true, true, true, true, true, true, true, true, true, true, true, true, true, true, true, true, true, true, true, true, true, true, true, true, true, true, true, true, true, true, true, true, true, true, true, true, true, true, true, true, true, true, true, true, true, true] rfl rfl (any_of HT_.out (by kernel_rfl)) (fun _ _ _ h => h) (Or.inl ⟨by rfl, ?_⟩) ?_ ?_
                         rotate_left
                         ·intro w'
                          go_simp
                          with_reducible rfl
                         rotate_left
                         ·simp only [Act.put, List.setIfInBounds_toArray, List.set_cons_zero, List.set_cons_succ, i64_w, i32_w]
                          rfl
                         refine done_ (done_of HT_.out (by kernel_rfl)) ?_
                         try go_wp2
                         go_ret
                         exact ⟨by first | rfl | (simp [errW_none, errW_some] <;> rfl) | (simp [*, errW_none, errW_some] <;> rfl), by repeat (first | (with_reducible first | exact HB.out | apply below_alloc | apply pw_below_drewN | apply below_drew1 | refine below_set ?_ GE473.out | refine below_set ?_ GE503.out | refine below_set ?_ GE512.out) | exact HB.out)⟩
                       ·rw [if_neg c86] at H
                        exact absurd H (by simp)
                      ·rw [if_neg c85] at H
                       exact absurd H (by simp)
                     ·rw [if_neg c83] at H
                      exact absurd H (by simp)
                    ·rw [if_neg c82] at H
                     exact absurd H (by simp)
                   ·rw [if_neg c81] at H
                    exact absurd H (by simp)
                  ·rw [if_neg c79] at H
                   exact absurd H (by simp)
                 ·rw [if_neg c78] at H
                  exact absurd H (by simp)
                ·rw [if_neg c77] at H
                 exact absurd H (by simp)
               ·rw [if_neg c76] at H
                exact absurd H (by simp)
              ·rw [if_neg c75] at H
               exact absurd H (by simp)
             ·rw [if_neg c74] at H
              exact absurd H (by simp)

end Go.Proofs.Ytjmbjnobbeflfaa.X
