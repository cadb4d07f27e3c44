/- Written by a program of this session (wip/tools/xprint.py, which calls the kit's print): Go functions as Lean functions, and for each the proof that the machine's call does what it says; no conditions but those that each theorem names. -/
import Derived.Test.YtjmbjnobbeflfaaQX0
import Derived.Test.YtjmbjnobbeflfaaQXE
import Derived.Test.YtjmbjnobbeflfaaQXF
import Derived.Test.YtjmbjnobbeflfaaQXM
import Derived.Test.YtjmbjnobbeflfaaQXO
import Derived.Test.YtjmbjnobbeflfaaQXS
import Derived.Test.YtjmbjnobbeflfaaQXcomfitref06Adds
import Derived.Test.YtjmbjnobbeflfaaQXtagsAdds
import Derived.Test.YtjmbjnobbeflfaaQHFewer
namespace Go.Proofs.Ytjmbjnobbeflfaa.X
open Go.RowKit Go.Proofs.YtjmbjnobbeflfaaW.PrintWords Go.Proofs.YtjmbjnobbeflfaaW.PrintLast Go.Proofs.YtjmbjnobbeflfaaW.PrintMore
attribute [local go_sem] max2_int min2_int max_two min_two max_three min_three max_four min_four   -- for this text's walks alone
set_option linter.unusedVariables false
set_option linter.unusedSimpArgs false

/-! ### comfitlaw06_TagsAdds: function 7 -/
def comfitlaw06_TagsAdds.j0 : Nat → List (S39) → Int → Bool → Int → Bool → Option (Bool)
 | 0, _, _, _, _, _ => none
 | k + 1, x0, x1, x5, x6, x56 => if x56 = true then (none) else (if x1 < 0 then (if x5 = true then (none) else (some (x6 == 2))) else (if x1 > 1 then (if x5 = true then (none) else (some (x6 == 2))) else ((comfitref06_Adds.f k x0 x1).bind fun t472 => (if (x5 == t472) = true then (some (x6 == 0)) else (none)))))
def comfitlaw06_TagsAdds.f (k : Nat) (l0 : List (S39)) (a1 : Int) : Option (Bool) := (comfitlaw06_Of.f k l0).bind fun t450 => ((tags_Adds.f k t450 a1).bind fun bt453 => ((comfitlaw06_Of.f k l0).bind fun t455 => ((tags_Fewer.f t455).bind fun bt458 => ((comfitref06_Machine.f k l0).bind fun t462 => (if t462 = true then ((comfitlaw06_own.f k bt458.1).bind fun t464 => ((comfitref06_Fewer.f k l0).bind fun t467 => ((comfitref06_Order.f k t464 t467).bind fun t470 => (if t470 = true then (if bt458.2 = 0 then ((comfitlaw06_awake.f k).bind fun t471 => (comfitlaw06_TagsAdds.j0 k l0 a1 bt453.1 bt453.2 (!t471))) else (comfitlaw06_TagsAdds.j0 k l0 a1 bt453.1 bt453.2 true)) else (comfitlaw06_TagsAdds.j0 k l0 a1 bt453.1 bt453.2 true))))) else (if bt453.1 = true then (none) else (if (bt458.1.length : Int) = 0 then (if bt453.2 = 2 then (if bt458.2 = 2 then ((comfitlaw06_awake.f k).bind fun t463 => (some t463)) else (none)) else (none)) else (none))))))))
set_option maxHeartbeats 8000000 in
set_option maxRecDepth 100000 in
theorem comfitlaw06_TagsAdds.calls (k : Nat) (A0 : Option Addr) (c0 : Nat) (l0 : List (S39)) (a1 : Int) (r : Bool) (w : World) (hr0 : Kd.C k39 w A0 l0.length l0) (hc0 : l0.length ≤ c0) (h : comfitlaw06_TagsAdds.f k l0 a1 = some r) :
  Calls Try.prog 7 #[.slice A0 l0.length c0, .int .i64 a1] w fun e w' => e = .returned (.bool r) ∧ Below w.heap.size w w' := by
 have HR0 := Aside0.mk hr0
 have HC0 := Aside0.mk hc0
 clear hr0 hc0
 have HB := Aside0.mk (Below.refl w.heap.size w)
 have H : ((comfitlaw06_Of.f k l0).bind fun t450 => ((tags_Adds.f k t450 a1).bind fun bt453 => ((comfitlaw06_Of.f k l0).bind fun t455 => ((tags_Fewer.f t455).bind fun bt458 => ((comfitref06_Machine.f k l0).bind fun t462 => (if t462 = true then ((comfitlaw06_own.f k bt458.1).bind fun t464 => ((comfitref06_Fewer.f k l0).bind fun t467 => ((comfitref06_Order.f k t464 t467).bind fun t470 => (if t470 = true then (if bt458.2 = 0 then ((comfitlaw06_awake.f k).bind fun t471 => (comfitlaw06_TagsAdds.j0 k l0 a1 bt453.1 bt453.2 (!t471))) else (comfitlaw06_TagsAdds.j0 k l0 a1 bt453.1 bt453.2 true)) else (comfitlaw06_TagsAdds.j0 k l0 a1 bt453.1 bt453.2 true))))) else (if bt453.1 = true then (none) else (if (bt458.1.length : Int) = 0 then (if bt453.2 = 2 then (if bt458.2 = 2 then ((comfitlaw06_awake.f k).bind fun t463 => (some t463)) else (none)) else (none)) else (none))))))))) = some r := h
 clear h
 replace H := Option.bind_eq_some_iff.mp H
 obtain ⟨t450, A30, H⟩ := H
 replace H : ((tags_Adds.f k t450 a1).bind fun bt453 => ((comfitlaw06_Of.f k l0).bind fun t455 => ((tags_Fewer.f t455).bind fun bt458 => ((comfitref06_Machine.f k l0).bind fun t462 => (if t462 = true then ((comfitlaw06_own.f k bt458.1).bind fun t464 => ((comfitref06_Fewer.f k l0).bind fun t467 => ((comfitref06_Order.f k t464 t467).bind fun t470 => (if t470 = true then (if bt458.2 = 0 then ((comfitlaw06_awake.f k).bind fun t471 => (comfitlaw06_TagsAdds.j0 k l0 a1 bt453.1 bt453.2 (!t471))) else (comfitlaw06_TagsAdds.j0 k l0 a1 bt453.1 bt453.2 true)) else (comfitlaw06_TagsAdds.j0 k l0 a1 bt453.1 bt453.2 true))))) else (if bt453.1 = true then (none) else (if (bt458.1.length : Int) = 0 then (if bt453.2 = 2 then (if bt458.2 = 2 then ((comfitlaw06_awake.f k).bind fun t463 => (some t463)) else (none)) else (none)) else (none)))))))) = some r := H
 have A3 := Aside0.mk A30
 clear A30
 replace H := Option.bind_eq_some_iff.mp H
 obtain ⟨⟨t453, t454⟩, A40, H⟩ := H
 replace H : ((comfitlaw06_Of.f k l0).bind fun t455 => ((tags_Fewer.f t455).bind fun bt458 => ((comfitref06_Machine.f k l0).bind fun t462 => (if t462 = true then ((comfitlaw06_own.f k bt458.1).bind fun t464 => ((comfitref06_Fewer.f k l0).bind fun t467 => ((comfitref06_Order.f k t464 t467).bind fun t470 => (if t470 = true then (if bt458.2 = 0 then ((comfitlaw06_awake.f k).bind fun t471 => (comfitlaw06_TagsAdds.j0 k l0 a1 t453 t454 (!t471))) else (comfitlaw06_TagsAdds.j0 k l0 a1 t453 t454 true)) else (comfitlaw06_TagsAdds.j0 k l0 a1 t453 t454 true))))) else (if t453 = true then (none) else (if (bt458.1.length : Int) = 0 then (if t454 = 2 then (if bt458.2 = 2 then ((comfitlaw06_awake.f k).bind fun t463 => (some t463)) else (none)) else (none)) else (none))))))) = some r := H
 have A4 := Aside0.mk A40
 clear A40
 replace H := Option.bind_eq_some_iff.mp H
 obtain ⟨t455, A50, H⟩ := H
 replace H : ((tags_Fewer.f t455).bind fun bt458 => ((comfitref06_Machine.f k l0).bind fun t462 => (if t462 = true then ((comfitlaw06_own.f k bt458.1).bind fun t464 => ((comfitref06_Fewer.f k l0).bind fun t467 => ((comfitref06_Order.f k t464 t467).bind fun t470 => (if t470 = true then (if bt458.2 = 0 then ((comfitlaw06_awake.f k).bind fun t471 => (comfitlaw06_TagsAdds.j0 k l0 a1 t453 t454 (!t471))) else (comfitlaw06_TagsAdds.j0 k l0 a1 t453 t454 true)) else (comfitlaw06_TagsAdds.j0 k l0 a1 t453 t454 true))))) else (if t453 = true then (none) else (if (bt458.1.length : Int) = 0 then (if t454 = 2 then (if bt458.2 = 2 then ((comfitlaw06_awake.f k).bind fun t463 => (some t463)) else (none)) else (none)) else (none)))))) = some r := H
 have A5 := Aside0.mk A50
 clear A50
 replace H := Option.bind_eq_some_iff.mp H
 obtain ⟨⟨t458, t459⟩, A60, H⟩ := H
 replace H : ((comfitref06_Machine.f k l0).bind fun t462 => (if t462 = true then ((comfitlaw06_own.f k t458).bind fun t464 => ((comfitref06_Fewer.f k l0).bind fun t467 => ((comfitref06_Order.f k t464 t467).bind fun t470 => (if t470 = true then (if t459 = 0 then ((comfitlaw06_awake.f k).bind fun t471 => (comfitlaw06_TagsAdds.j0 k l0 a1 t453 t454 (!t471))) else (comfitlaw06_TagsAdds.j0 k l0 a1 t453 t454 true)) else (comfitlaw06_TagsAdds.j0 k l0 a1 t453 t454 true))))) else (if t453 = true then (none) else (if (t458.length : Int) = 0 then (if t454 = 2 then (if t459 = 2 then ((comfitlaw06_awake.f k).bind fun t463 => (some t463)) else (none)) else (none)) else (none))))) = some r := H
 have A6 := Aside0.mk A60
 clear A60
 replace H := Option.bind_eq_some_iff.mp H
 obtain ⟨t462, A70, H⟩ := H
 replace H : (if t462 = true then ((comfitlaw06_own.f k t458).bind fun t464 => ((comfitref06_Fewer.f k l0).bind fun t467 => ((comfitref06_Order.f k t464 t467).bind fun t470 => (if t470 = true then (if t459 = 0 then ((comfitlaw06_awake.f k).bind fun t471 => (comfitlaw06_TagsAdds.j0 k l0 a1 t453 t454 (!t471))) else (comfitlaw06_TagsAdds.j0 k l0 a1 t453 t454 true)) else (comfitlaw06_TagsAdds.j0 k l0 a1 t453 t454 true))))) else (if t453 = true then (none) else (if (t458.length : Int) = 0 then (if t454 = 2 then (if t459 = 2 then ((comfitlaw06_awake.f k).bind fun t463 => (some t463)) else (none)) else (none)) else (none)))) = some r := H
 have A7 := Aside0.mk A70
 clear A70
 by_cases c8 : t462 = true
 ·subst c8
  have H1 : ((comfitlaw06_own.f k t458).bind fun t464 => ((comfitref06_Fewer.f k l0).bind fun t467 => ((comfitref06_Order.f k t464 t467).bind fun t470 => (if t470 = true then (if t459 = 0 then ((comfitlaw06_awake.f k).bind fun t471 => (comfitlaw06_TagsAdds.j0 k l0 a1 t453 t454 (!t471))) else (comfitlaw06_TagsAdds.j0 k l0 a1 t453 t454 true)) else (comfitlaw06_TagsAdds.j0 k l0 a1 t453 t454 true))))) = some r := by rw [if_pos rfl] at H; exact H
  clear H
  have H := H1
  clear H1
  have HC9 := Aside0.mk H
  clear H
  go_enter Try.func7, Try.ntmps7
  go_upto_region 5 with (first | ((with_reducible refine gate_callee (f := 11) rfl ?_); refine goesL_ (some 11) rfl rfl Try.func11 (by kernel_rfl) rfl #[.slice A0 l0.length c0] rfl al_ ?_; (with_reducible refine (comfitlaw06_Of.calls k _ _ l0 t450 _ ?side1 ?side2 A3.out).mono ?_); (case side1 => repeat (first | exact HR0.out | (with_reducible refine Kd.C_alloc ?_ _) | (with_reducible refine Kd.C_drewN ?_ _) | (with_reducible refine Kd.C_drew ?_))); (case side2 => exact HC0.out); rintro e w10 ⟨v451, rfl, ho0, hb⟩; refine ⟨_, rfl, ?_⟩; have n0_ := Aside0.mk (Kd.R_lower ho0 (below_size (hb_ HB.out))); have n1_ := Aside0.mk (below_step (hb_ HB.out) hb); clear HB; have HO452 := n0_; have HB := n1_; clear n0_ n1_; (try clear hb); (try clear hb2); (try clear hk); (try clear hi); (try clear ho0); obtain ⟨Ao11, co11, eo11⟩ := Kd.R_slice HO452.out; subst eo11) | ((with_reducible refine gate_callee (f := 22) rfl ?_); refine goesL_ (some 13) rfl rfl Try.func22 (by kernel_rfl) rfl #[.slice Ao11 t450.length co11, .int .i64 a1] rfl al_ ?_; (with_reducible refine (tags_Adds.calls k _ _ t450 a1 t453 t454 _ ?side1 ?side2 A4.out).mono ?_); (case side1 => exact kc_ (Kd.R_reads' HO452.out).2.2); (case side2 => exact (Kd.R_reads' HO452.out).2.1); rintro e w12 ⟨rfl, hb⟩; refine ⟨_, rfl, ?_⟩; have n0_ := Aside0.mk (Kd.R_below (kr_ (HO452.out)) hb); have n1_ := Aside0.mk (below_step (hb_ HB.out) hb); clear HO452; clear HB; have HO452 := n0_; have HB := n1_; clear n0_ n1_; (try clear hb); (try clear hb2); (try clear hk); (try clear hi)) | ((with_reducible refine gate_callee (f := 11) rfl ?_); refine goesL_ (some 18) rfl rfl Try.func11 (by kernel_rfl) rfl #[.slice A0 l0.length c0] rfl al_ ?_; (with_reducible refine (comfitlaw06_Of.calls k _ _ l0 t455 _ ?side1 ?side2 A5.out).mono ?_); (case side1 => exact kc_ (Kd.C_below HR0.out HB.out)); (case side2 => exact HC0.out); rintro e w13 ⟨v456, rfl, ho0, hb⟩; refine ⟨_, rfl, ?_⟩; have n0_ := Aside0.mk (Kd.R_elder' (kr_ (HO452.out)) (Kd.R_base ho0) hb); have n1_ := Aside0.mk (Kd.R_lower (Kd.R_new' ho0 (Kd.R_lt (kr_ (HO452.out)))) (below_size (hb_ HB.out))); have n2_ := Aside0.mk (below_step (hb_ HB.out) hb); clear HO452; clear HB; have HO452 := n0_; have HO457 := n1_; have HB := n2_; clear n0_ n1_ n2_; (try clear hb); (try clear hb2); (try clear hk); (try clear hi); (try clear ho0); obtain ⟨Ao14, co14, eo14⟩ := Kd.R_slice HO457.out; subst eo14) | ((with_reducible refine gate_callee (f := 23) rfl ?_); refine goesL_ (some 19) rfl rfl Try.func23 (by kernel_rfl) rfl #[.slice Ao14 t455.length co14] rfl al_ ?_; (with_reducible refine (tags_Fewer.calls _ _ t455 t458 t459 _ ?side1 ?side2 A6.out).mono ?_); (case side1 => exact kc_ (Kd.R_reads' HO457.out).2.2); (case side2 => exact (Kd.R_reads' HO457.out).2.1); rintro e w15 ⟨v460, rfl, ho0, hb⟩; refine ⟨_, rfl, ?_⟩; have n0_ := Aside0.mk (Kd.R_elder' (kr_ (HO452.out)) (Kd.R_base ho0) hb); have n1_ := Aside0.mk (Kd.R_elder' (kr_ (HO457.out)) (Kd.R_base ho0) hb); have n2_ := Aside0.mk (Kd.R_lower (Kd.R_new' (Kd.R_new' ho0 (Kd.R_lt (kr_ (HO452.out)))) (Kd.R_lt (kr_ (HO457.out)))) (below_size (hb_ HB.out))); have n3_ := Aside0.mk (below_step (hb_ HB.out) hb); clear HO452; clear HO457; clear HB; have HO452 := n0_; have HO457 := n1_; have HO461 := n2_; have HB := n3_; clear n0_ n1_ n2_ n3_; (try clear hb); (try clear hb2); (try clear hk); (try clear hi); (try clear ho0)) | ((with_reducible refine gate_callee (f := 12) rfl ?_); refine goesL_ (some 23) rfl rfl Try.func12 (by kernel_rfl) rfl #[.slice A0 l0.length c0] rfl al_ ?_; (with_reducible refine (comfitref06_Machine.calls k _ _ l0 true _ ?side1 ?side2 A7.out).mono ?_); (case side1 => exact kc_ (Kd.C_below HR0.out HB.out)); (case side2 => exact HC0.out); rintro e w16 ⟨rfl, hb⟩; refine ⟨_, rfl, ?_⟩; have n0_ := Aside0.mk (Kd.R_below (kr_ (HO452.out)) hb); have n1_ := Aside0.mk (Kd.R_below (kr_ (HO457.out)) hb); have n2_ := Aside0.mk (Kd.R_below (kr_ (HO461.out)) hb); have n3_ := Aside0.mk (below_step (hb_ HB.out) hb); clear HO452; clear HO457; clear HO461; clear HB; have HO452 := n0_; have HO457 := n1_; have HO461 := n2_; have HB := n3_; clear n0_ n1_ n2_ n3_; (try clear hb); (try clear hb2); (try clear hk); (try clear hi)))
  (try simp only [Act.put, List.setIfInBounds_toArray, List.set_cons_zero, List.set_cons_succ])
  go_cut [56] (fun v56 wc => ∃ (kq : Nat) (x56_8 : Bool), v56 = .bool x56_8 ∧ Aside0 (comfitlaw06_TagsAdds.j0 kq l0 a1 t453 t454 x56_8 = some r) ∧ Aside0 (kq ≤ k) ∧ Aside0 (Below w.heap.size w wc))
  case first =>
   have H := HC9.out
   clear HC9
   replace H := Option.bind_eq_some_iff.mp H
   obtain ⟨t464, A170, H⟩ := H
   replace H : ((comfitref06_Fewer.f k l0).bind fun t467 => ((comfitref06_Order.f k t464 t467).bind fun t470 => (if t470 = true then (if t459 = 0 then ((comfitlaw06_awake.f k).bind fun t471 => (comfitlaw06_TagsAdds.j0 k l0 a1 t453 t454 (!t471))) else (comfitlaw06_TagsAdds.j0 k l0 a1 t453 t454 true)) else (comfitlaw06_TagsAdds.j0 k l0 a1 t453 t454 true)))) = some r := H
   have A17 := Aside0.mk A170
   clear A170
   replace H := Option.bind_eq_some_iff.mp H
   obtain ⟨t467, A180, H⟩ := H
   replace H : ((comfitref06_Order.f k t464 t467).bind fun t470 => (if t470 = true then (if t459 = 0 then ((comfitlaw06_awake.f k).bind fun t471 => (comfitlaw06_TagsAdds.j0 k l0 a1 t453 t454 (!t471))) else (comfitlaw06_TagsAdds.j0 k l0 a1 t453 t454 true)) else (comfitlaw06_TagsAdds.j0 k l0 a1 t453 t454 true))) = some r := H
   have A18 := Aside0.mk A180
   clear A180
   replace H := Option.bind_eq_some_iff.mp H
   obtain ⟨t470, A190, H⟩ := H
   replace H : (if t470 = true then (if t459 = 0 then ((comfitlaw06_awake.f k).bind fun t471 => (comfitlaw06_TagsAdds.j0 k l0 a1 t453 t454 (!t471))) else (comfitlaw06_TagsAdds.j0 k l0 a1 t453 t454 true)) else (comfitlaw06_TagsAdds.j0 k l0 a1 t453 t454 true)) = some r := H
   have A19 := Aside0.mk A190
   clear A190
   by_cases c20 : t470 = true
   ·subst c20
    have H1 : (if t459 = 0 then ((comfitlaw06_awake.f k).bind fun t471 => (comfitlaw06_TagsAdds.j0 k l0 a1 t453 t454 (!t471))) else (comfitlaw06_TagsAdds.j0 k l0 a1 t453 t454 true)) = some r := by rw [if_pos rfl] at H; exact H
    clear H
    have H := H1
    clear H1
    by_cases c21 : t459 = 0
    ·rw [if_pos c21] at H
     have c21b0 : (t459 == 0) = true := beq_iff_eq.mpr c21
     have c21b1 : (t459 != 0) = false := bne_eq_false_iff_eq.mpr c21
     clear c21
     (first | rw [c21b0] | (simp only [i64_w, i32_w]; rw [c21b0]) | skip)
     replace H := Option.bind_eq_some_iff.mp H
     obtain ⟨t471, A220, H⟩ := H
     replace H : (comfitlaw06_TagsAdds.j0 k l0 a1 t453 t454 (!t471)) = some r := H
     have A22 := Aside0.mk A220
     clear A220
     have H' := Aside0.mk H
     clear H
     obtain ⟨Ao23, co23, eo23⟩ := Kd.R_slice HO461.out
     subst eo23
     go_wp2_with (first | ((with_reducible refine gate_callee (f := 25) rfl ?_); refine goesL_ (some 44) rfl rfl Try.func25 (by kernel_rfl) rfl #[.slice Ao23 t458.length co23] rfl al_ ?_; (with_reducible refine (comfitlaw06_own.calls k _ _ t458 t464 _ ?side1 ?side2 A17.out).mono ?_); (case side1 => exact kc_ (Kd.R_reads' HO461.out).2.2); (case side2 => exact (Kd.R_reads' HO461.out).2.1); rintro e w24 ⟨v465, rfl, ho0, hb⟩; refine ⟨_, rfl, ?_⟩; have n0_ := Aside0.mk (Kd.R_below (kr_ (HO452.out)) hb); have n1_ := Aside0.mk (Kd.R_below (kr_ (HO457.out)) hb); have n2_ := Aside0.mk (Kd.R_below (kr_ (HO461.out)) hb); have n3_ := Aside0.mk (Kd.R_lower ho0 (below_size (hb_ HB.out))); have n4_ := Aside0.mk (below_step (hb_ HB.out) hb); clear HO452; clear HO457; clear HO461; clear HB; have HO452 := n0_; have HO457 := n1_; have HO461 := n2_; have HO466 := n3_; have HB := n4_; clear n0_ n1_ n2_ n3_ n4_; (try clear hb); (try clear hb2); (try clear hk); (try clear hi); (try clear ho0)) | ((with_reducible refine gate_callee (f := 26) rfl ?_); refine goesL_ (some 46) rfl rfl Try.func26 (by kernel_rfl) rfl #[.slice A0 l0.length c0] rfl al_ ?_; (with_reducible refine (comfitref06_Fewer.calls k _ _ l0 t467 _ ?side1 ?side2 A18.out).mono ?_); (case side1 => exact kc_ (Kd.C_below HR0.out HB.out)); (case side2 => exact HC0.out); rintro e w25 ⟨v468, rfl, ho0, hb⟩; refine ⟨_, rfl, ?_⟩; have n0_ := Aside0.mk (Kd.R_below (kr_ (HO452.out)) hb); have n1_ := Aside0.mk (Kd.R_below (kr_ (HO457.out)) hb); have n2_ := Aside0.mk (Kd.R_below (kr_ (HO461.out)) hb); have n3_ := Aside0.mk (Kd.R_elder' (kr_ (HO466.out)) (Kd.R_base ho0) hb); have n4_ := Aside0.mk (Kd.R_lower (Kd.R_new' ho0 (Kd.R_lt (kr_ (HO466.out)))) (below_size (hb_ HB.out))); have n5_ := Aside0.mk (below_step (hb_ HB.out) hb); clear HO452; clear HO457; clear HO461; clear HO466; clear HB; have HO452 := n0_; have HO457 := n1_; have HO461 := n2_; have HO466 := n3_; have HO469 := n4_; have HB := n5_; clear n0_ n1_ n2_ n3_ n4_ n5_; (try clear hb); (try clear hb2); (try clear hk); (try clear hi); (try clear ho0); obtain ⟨Ao26, co26, eo26⟩ := Kd.R_slice HO466.out; subst eo26; obtain ⟨Ao27, co27, eo27⟩ := Kd.R_slice HO469.out; subst eo27) | ((with_reducible refine gate_callee (f := 24) rfl ?_); refine goesL_ (some 47) rfl rfl Try.func24 (by kernel_rfl) rfl #[.slice Ao26 t464.length co26, .slice Ao27 t467.length co27] rfl al_ ?_; (with_reducible refine (comfitref06_Order.calls k _ _ t464 _ _ t467 true _ ?side1 ?side2 ?side3 ?side4 A19.out).mono ?_); (case side1 => exact kc_ (Kd.R_reads' HO466.out).2.2); (case side2 => exact (Kd.R_reads' HO466.out).2.1); (case side3 => exact kc_ (Kd.R_reads' HO469.out).2.2); (case side4 => exact (Kd.R_reads' HO469.out).2.1); rintro e w' ⟨rfl, ⟨nd, rfl⟩⟩; refine ⟨_, rfl, ?_⟩) | (go_at_call 14; (with_reducible refine (comfitlaw06_awake.calls k  t471 _ A22.out).mono ?_); rintro e w28 ⟨rfl, hb⟩; have n0_ := Aside0.mk (Kd.R_below (kr_ (HO452.out)) hb); have n1_ := Aside0.mk (Kd.R_below (kr_ (HO457.out)) hb); have n2_ := Aside0.mk (Kd.R_below (kr_ (HO461.out)) hb); have n3_ := Aside0.mk (Kd.R_below (kr_ (HO466.out)) hb); have n4_ := Aside0.mk (Kd.R_below (kr_ (HO469.out)) hb); have n5_ := Aside0.mk (below_step (hb_ HB.out) hb); clear HO452; clear HO457; clear HO461; clear HO466; clear HO469; clear HB; have HO452 := n0_; have HO457 := n1_; have HO461 := n2_; have HO466 := n3_; have HO469 := n4_; have HB := n5_; clear n0_ n1_ n2_ n3_ n4_ n5_; (try clear hb); (try clear hb2); (try clear hk); (try clear hi)))
     go_meet
     case rel => exact ⟨_, (!t471), (by first | rfl | (simp; done) | (simp [*]; done)), H', ⟨by first | omega | exact Nat.le_refl _⟩, ⟨by repeat (first | (with_reducible first | exact HB.out | apply below_alloc | apply pw_below_drewN | apply below_drew1) | exact HB.out)⟩⟩
    ·rw [if_neg c21] at H
     have c21b0 : (t459 == 0) = false := beq_eq_false_iff_ne.mpr c21
     have c21b1 : (t459 != 0) = true := bne_iff_ne.mpr c21
     (first | rw [c21b0] | (simp only [i64_w, i32_w]; rw [c21b0]) | skip)
     have H' := Aside0.mk H
     clear H
     obtain ⟨Ao29, co29, eo29⟩ := Kd.R_slice HO461.out
     subst eo29
     go_wp2_with (first | ((with_reducible refine gate_callee (f := 25) rfl ?_); refine goesL_ (some 44) rfl rfl Try.func25 (by kernel_rfl) rfl #[.slice Ao29 t458.length co29] rfl al_ ?_; (with_reducible refine (comfitlaw06_own.calls k _ _ t458 t464 _ ?side1 ?side2 A17.out).mono ?_); (case side1 => exact kc_ (Kd.R_reads' HO461.out).2.2); (case side2 => exact (Kd.R_reads' HO461.out).2.1); rintro e w30 ⟨v465, rfl, ho0, hb⟩; refine ⟨_, rfl, ?_⟩; have n0_ := Aside0.mk (Kd.R_below (kr_ (HO452.out)) hb); have n1_ := Aside0.mk (Kd.R_below (kr_ (HO457.out)) hb); have n2_ := Aside0.mk (Kd.R_below (kr_ (HO461.out)) hb); have n3_ := Aside0.mk (Kd.R_lower ho0 (below_size (hb_ HB.out))); have n4_ := Aside0.mk (below_step (hb_ HB.out) hb); clear HO452; clear HO457; clear HO461; clear HB; have HO452 := n0_; have HO457 := n1_; have HO461 := n2_; have HO466 := n3_; have HB := n4_; clear n0_ n1_ n2_ n3_ n4_; (try clear hb); (try clear hb2); (try clear hk); (try clear hi); (try clear ho0)) | ((with_reducible refine gate_callee (f := 26) rfl ?_); refine goesL_ (some 46) rfl rfl Try.func26 (by kernel_rfl) rfl #[.slice A0 l0.length c0] rfl al_ ?_; (with_reducible refine (comfitref06_Fewer.calls k _ _ l0 t467 _ ?side1 ?side2 A18.out).mono ?_); (case side1 => exact kc_ (Kd.C_below HR0.out HB.out)); (case side2 => exact HC0.out); rintro e w31 ⟨v468, rfl, ho0, hb⟩; refine ⟨_, rfl, ?_⟩; have n0_ := Aside0.mk (Kd.R_below (kr_ (HO452.out)) hb); have n1_ := Aside0.mk (Kd.R_below (kr_ (HO457.out)) hb); have n2_ := Aside0.mk (Kd.R_below (kr_ (HO461.out)) hb); have n3_ := Aside0.mk (Kd.R_elder' (kr_ (HO466.out)) (Kd.R_base ho0) hb); have n4_ := Aside0.mk (Kd.R_lower (Kd.R_new' ho0 (Kd.R_lt (kr_ (HO466.out)))) (below_size (hb_ HB.out))); have n5_ := Aside0.mk (below_step (hb_ HB.out) hb); clear HO452; clear HO457; clear HO461; clear HO466; clear HB; have HO452 := n0_; have HO457 := n1_; have HO461 := n2_; have HO466 := n3_; have HO469 := n4_; have HB := n5_; clear n0_ n1_ n2_ n3_ n4_ n5_; (try clear hb); (try clear hb2); (try clear hk); (try clear hi); (try clear ho0); obtain ⟨Ao32, co32, eo32⟩ := Kd.R_slice HO466.out; subst eo32; obtain ⟨Ao33, co33, eo33⟩ := Kd.R_slice HO469.out; subst eo33) | ((with_reducible refine gate_callee (f := 24) rfl ?_); refine goesL_ (some 47) rfl rfl Try.func24 (by kernel_rfl) rfl #[.slice Ao32 t464.length co32, .slice Ao33 t467.length co33] rfl al_ ?_; (with_reducible refine (comfitref06_Order.calls k _ _ t464 _ _ t467 true _ ?side1 ?side2 ?side3 ?side4 A19.out).mono ?_); (case side1 => exact kc_ (Kd.R_reads' HO466.out).2.2); (case side2 => exact (Kd.R_reads' HO466.out).2.1); (case side3 => exact kc_ (Kd.R_reads' HO469.out).2.2); (case side4 => exact (Kd.R_reads' HO469.out).2.1); rintro e w' ⟨rfl, ⟨nd, rfl⟩⟩; refine ⟨_, rfl, ?_⟩))
     go_meet
     case rel => exact ⟨_, (true), (by first | rfl | (simp; done) | (simp [*]; done)), H', ⟨by first | omega | exact Nat.le_refl _⟩, ⟨by repeat (first | (with_reducible first | exact HB.out | apply below_alloc | apply pw_below_drewN | apply below_drew1) | exact HB.out)⟩⟩
   ·replace c20 := Bool.eq_false_iff.mpr c20
    subst c20
    have H1 : (comfitlaw06_TagsAdds.j0 k l0 a1 t453 t454 true) = some r := by rw [if_neg (show ¬ (false = true) by decide)] at H; exact H
    clear H
    have H := H1
    clear H1
    have H' := Aside0.mk H
    clear H
    obtain ⟨Ao34, co34, eo34⟩ := Kd.R_slice HO461.out
    subst eo34
    go_wp2_with (first | ((with_reducible refine gate_callee (f := 25) rfl ?_); refine goesL_ (some 44) rfl rfl Try.func25 (by kernel_rfl) rfl #[.slice Ao34 t458.length co34] rfl al_ ?_; (with_reducible refine (comfitlaw06_own.calls k _ _ t458 t464 _ ?side1 ?side2 A17.out).mono ?_); (case side1 => exact kc_ (Kd.R_reads' HO461.out).2.2); (case side2 => exact (Kd.R_reads' HO461.out).2.1); rintro e w35 ⟨v465, rfl, ho0, hb⟩; refine ⟨_, rfl, ?_⟩; have n0_ := Aside0.mk (Kd.R_below (kr_ (HO452.out)) hb); have n1_ := Aside0.mk (Kd.R_below (kr_ (HO457.out)) hb); have n2_ := Aside0.mk (Kd.R_below (kr_ (HO461.out)) hb); have n3_ := Aside0.mk (Kd.R_lower ho0 (below_size (hb_ HB.out))); have n4_ := Aside0.mk (below_step (hb_ HB.out) hb); clear HO452; clear HO457; clear HO461; clear HB; have HO452 := n0_; have HO457 := n1_; have HO461 := n2_; have HO466 := n3_; have HB := n4_; clear n0_ n1_ n2_ n3_ n4_; (try clear hb); (try clear hb2); (try clear hk); (try clear hi); (try clear ho0)) | ((with_reducible refine gate_callee (f := 26) rfl ?_); refine goesL_ (some 46) rfl rfl Try.func26 (by kernel_rfl) rfl #[.slice A0 l0.length c0] rfl al_ ?_; (with_reducible refine (comfitref06_Fewer.calls k _ _ l0 t467 _ ?side1 ?side2 A18.out).mono ?_); (case side1 => exact kc_ (Kd.C_below HR0.out HB.out)); (case side2 => exact HC0.out); rintro e w36 ⟨v468, rfl, ho0, hb⟩; refine ⟨_, rfl, ?_⟩; have n0_ := Aside0.mk (Kd.R_below (kr_ (HO452.out)) hb); have n1_ := Aside0.mk (Kd.R_below (kr_ (HO457.out)) hb); have n2_ := Aside0.mk (Kd.R_below (kr_ (HO461.out)) hb); have n3_ := Aside0.mk (Kd.R_elder' (kr_ (HO466.out)) (Kd.R_base ho0) hb); have n4_ := Aside0.mk (Kd.R_lower (Kd.R_new' ho0 (Kd.R_lt (kr_ (HO466.out)))) (below_size (hb_ HB.out))); have n5_ := Aside0.mk (below_step (hb_ HB.out) hb); clear HO452; clear HO457; clear HO461; clear HO466; clear HB; have HO452 := n0_; have HO457 := n1_; have HO461 := n2_; have HO466 := n3_; have HO469 := n4_; have HB := n5_; clear n0_ n1_ n2_ n3_ n4_ n5_; (try clear hb); (try clear hb2); (try clear hk); (try clear hi); (try clear ho0); obtain ⟨Ao37, co37, eo37⟩ := Kd.R_slice HO466.out; subst eo37; obtain ⟨Ao38, co38, eo38⟩ := Kd.R_slice HO469.out; subst eo38) | ((with_reducible refine gate_callee (f := 24) rfl ?_); refine goesL_ (some 47) rfl rfl Try.func24 (by kernel_rfl) rfl #[.slice Ao37 t464.length co37, .slice Ao38 t467.length co38] rfl al_ ?_; (with_reducible refine (comfitref06_Order.calls k _ _ t464 _ _ t467 false _ ?side1 ?side2 ?side3 ?side4 A19.out).mono ?_); (case side1 => exact kc_ (Kd.R_reads' HO466.out).2.2); (case side2 => exact (Kd.R_reads' HO466.out).2.1); (case side3 => exact kc_ (Kd.R_reads' HO469.out).2.2); (case side4 => exact (Kd.R_reads' HO469.out).2.1); rintro e w' ⟨rfl, ⟨nd, rfl⟩⟩; refine ⟨_, rfl, ?_⟩))
    go_meet
    case rel => exact ⟨_, (true), (by first | rfl | (simp; done) | (simp [*]; done)), H', ⟨by first | omega | exact Nat.le_refl _⟩, ⟨by repeat (first | (with_reducible first | exact HB.out | apply below_alloc | apply pw_below_drewN | apply below_drew1) | exact HB.out)⟩⟩
  case rest =>
   clear HC9
   try clear c1
   try clear c2
   try clear p2
   try clear c7
   try clear c8
   try clear c11
   try clear c12
   try clear c20
   try clear c21
   try clear c21b0
   try clear c21b1
   try clear c22
   try clear c23
   try clear c24
   try clear c25
   try clear c26
   obtain ⟨kq, x56_8, rfl, HA, HJ8, HB⟩ := hcut
   cases kq with
   | zero => exact absurd HA.out (by simp [comfitlaw06_TagsAdds.j0])
   | succ kj8 =>
    have H := HA.out
    clear HA
    simp only [comfitlaw06_TagsAdds.j0] at H
    by_cases c39 : x56_8 = true
    ·subst c39
     have H1 : (none) = some r := by rw [if_pos rfl] at H; exact H
     clear H
     have H := H1
     clear H1
     exact absurd H (by simp)
    ·replace c39 := Bool.eq_false_iff.mpr c39
     subst c39
     have H1 : (if a1 < 0 then (if t453 = true then (none) else (some (t454 == 2))) else (if a1 > 1 then (if t453 = true then (none) else (some (t454 == 2))) else ((comfitref06_Adds.f kj8 l0 a1).bind fun t472 => (if (t453 == t472) = true then (some (t454 == 0)) else (none))))) = some r := by rw [if_neg (show ¬ (false = true) by decide)] at H; exact H
     clear H
     have H := H1
     clear H1
     by_cases c40 : a1 < 0
     ·rw [if_pos c40] at H
      have c40b0 : decide (a1 < 0) = true := decide_eq_true c40
      clear c40
      by_cases c41 : t453 = true
      ·subst c41
       have H1 : (none) = some r := by rw [if_pos rfl] at H; exact H
       clear H
       have H := H1
       clear H1
       exact absurd H (by simp)
      ·replace c41 := Bool.eq_false_iff.mpr c41
       subst c41
       have H1 : (some (t454 == 2)) = some r := by rw [if_neg (show ¬ (false = true) by decide)] at H; exact H
       clear H
       have H := H1
       clear H1
       obtain rfl := Option.some.inj H
       go_wp2
       go_ret
       exact ⟨by first | rfl | (simp [errW_none, errW_some] <;> rfl) | (simp [*, errW_none, errW_some] <;> rfl), by repeat (first | (with_reducible first | exact HB.out | apply below_alloc | apply pw_below_drewN | apply below_drew1) | exact HB.out)⟩
     ·rw [if_neg c40] at H
      have c40b0 : decide (a1 < 0) = false := decide_eq_false c40
      clear c40
      by_cases c42 : a1 > 1
      ·rw [if_pos c42] at H
       have c42b0 : decide (1 < a1) = true := decide_eq_true c42
       clear c42
       by_cases c43 : t453 = true
       ·subst c43
        have H1 : (none) = some r := by rw [if_pos rfl] at H; exact H
        clear H
        have H := H1
        clear H1
        exact absurd H (by simp)
       ·replace c43 := Bool.eq_false_iff.mpr c43
        subst c43
        have H1 : (some (t454 == 2)) = some r := by rw [if_neg (show ¬ (false = true) by decide)] at H; exact H
        clear H
        have H := H1
        clear H1
        obtain rfl := Option.some.inj H
        go_wp2
        go_ret
        exact ⟨by first | rfl | (simp [errW_none, errW_some] <;> rfl) | (simp [*, errW_none, errW_some] <;> rfl), by repeat (first | (with_reducible first | exact HB.out | apply below_alloc | apply pw_below_drewN | apply below_drew1) | exact HB.out)⟩
      ·rw [if_neg c42] at H
       have c42b0 : decide (1 < a1) = false := decide_eq_false c42
       clear c42
       replace H := Option.bind_eq_some_iff.mp H
       obtain ⟨t472, A440, H⟩ := H
       replace H : (if (t453 == t472) = true then (some (t454 == 0)) else (none)) = some r := H
       have A44 := Aside0.mk A440
       clear A440
       by_cases c45 : (t453 == t472) = true
       ·rw [if_pos c45] at H
        have c45b0 : (t453 == t472) = true := c45
        (try (have c45b1 : decide (t453 = t472) = true := by simpa using c45))
        (try (have c45b2 : (t453 == t472) = true := by simpa using c45))
        clear c45
        obtain rfl := Option.some.inj H
        go_wp2_with (first | ((with_reducible refine gate_callee (f := 27) rfl ?_); refine goesL_ (some 72) rfl rfl Try.func27 (by kernel_rfl) rfl #[.slice A0 l0.length c0, .int .i64 a1] rfl al_ ?_; (with_reducible refine (comfitref06_Adds.calls kj8 _ _ l0 a1 t472 _ ?side1 ?side2 A44.out).mono ?_); (case side1 => exact kc_ (Kd.C_below HR0.out HB.out)); (case side2 => exact HC0.out); rintro e w46 ⟨rfl, hb⟩; refine ⟨_, rfl, ?_⟩; have n0_ := Aside0.mk (below_step (hb_ HB.out) hb); clear HB; have HB := n0_; clear n0_; (try clear hb); (try clear hb2); (try clear hk); (try clear hi)))
        go_ret
        exact ⟨by first | rfl | (simp [errW_none, errW_some] <;> rfl) | (simp [*, errW_none, errW_some] <;> rfl), by repeat (first | (with_reducible first | exact HB.out | apply below_alloc | apply pw_below_drewN | apply below_drew1) | exact HB.out)⟩
       ·rw [if_neg c45] at H
        exact absurd H (by simp)
 ·replace c8 := Bool.eq_false_iff.mpr c8
  subst c8
  have H1 : (if t453 = true then (none) else (if (t458.length : Int) = 0 then (if t454 = 2 then (if t459 = 2 then ((comfitlaw06_awake.f k).bind fun t463 => (some t463)) else (none)) else (none)) else (none))) = some r := by rw [if_neg (show ¬ (false = true) by decide)] at H; exact H
  clear H
  have H := H1
  clear H1
  by_cases c47 : t453 = true
  ·subst c47
   have H1 : (none) = some r := by rw [if_pos rfl] at H; exact H
   clear H
   have H := H1
   clear H1
   exact absurd H (by simp)
  ·replace c47 := Bool.eq_false_iff.mpr c47
   subst c47
   have H1 : (if (t458.length : Int) = 0 then (if t454 = 2 then (if t459 = 2 then ((comfitlaw06_awake.f k).bind fun t463 => (some t463)) else (none)) else (none)) else (none)) = some r := by rw [if_neg (show ¬ (false = true) by decide)] at H; exact H
   clear H
   have H := H1
   clear H1
   by_cases c48 : (t458.length : Int) = 0
   ·rw [if_pos c48] at H
    have c48b0 : ((t458.length : Int) == 0) = true := beq_iff_eq.mpr c48
    have c48b1 : ((t458.length : Int) != 0) = false := bne_eq_false_iff_eq.mpr c48
    clear c48
    by_cases c49 : t454 = 2
    ·rw [if_pos c49] at H
     have c49b0 : (t454 == 2) = true := beq_iff_eq.mpr c49
     have c49b1 : (t454 != 2) = false := bne_eq_false_iff_eq.mpr c49
     clear c49
     by_cases c50 : t459 = 2
     ·rw [if_pos c50] at H
      have c50b0 : (t459 == 2) = true := beq_iff_eq.mpr c50
      have c50b1 : (t459 != 2) = false := bne_eq_false_iff_eq.mpr c50
      clear c50
      replace H := Option.bind_eq_some_iff.mp H
      obtain ⟨t463, A510, H⟩ := H
      replace H : (some t463) = some r := H
      have A51 := Aside0.mk A510
      clear A510
      obtain rfl := Option.some.inj H
      go_enter Try.func7, Try.ntmps7
      go_wp2_with (first | ((with_reducible refine gate_callee (f := 11) rfl ?_); refine goesL_ (some 11) rfl rfl Try.func11 (by kernel_rfl) rfl #[.slice A0 l0.length c0] rfl al_ ?_; (with_reducible refine (comfitlaw06_Of.calls k _ _ l0 t450 _ ?side1 ?side2 A3.out).mono ?_); (case side1 => repeat (first | exact HR0.out | (with_reducible refine Kd.C_alloc ?_ _) | (with_reducible refine Kd.C_drewN ?_ _) | (with_reducible refine Kd.C_drew ?_))); (case side2 => exact HC0.out); rintro e w52 ⟨v451, rfl, ho0, hb⟩; refine ⟨_, rfl, ?_⟩; have n0_ := Aside0.mk (Kd.R_lower ho0 (below_size (hb_ HB.out))); have n1_ := Aside0.mk (below_step (hb_ HB.out) hb); clear HB; have HO452 := n0_; have HB := n1_; clear n0_ n1_; (try clear hb); (try clear hb2); (try clear hk); (try clear hi); (try clear ho0); obtain ⟨Ao53, co53, eo53⟩ := Kd.R_slice HO452.out; subst eo53) | ((with_reducible refine gate_callee (f := 22) rfl ?_); refine goesL_ (some 13) rfl rfl Try.func22 (by kernel_rfl) rfl #[.slice Ao53 t450.length co53, .int .i64 a1] rfl al_ ?_; (with_reducible refine (tags_Adds.calls k _ _ t450 a1 false t454 _ ?side1 ?side2 A4.out).mono ?_); (case side1 => exact kc_ (Kd.R_reads' HO452.out).2.2); (case side2 => exact (Kd.R_reads' HO452.out).2.1); rintro e w54 ⟨rfl, hb⟩; refine ⟨_, rfl, ?_⟩; have n0_ := Aside0.mk (Kd.R_below (kr_ (HO452.out)) hb); have n1_ := Aside0.mk (below_step (hb_ HB.out) hb); clear HO452; clear HB; have HO452 := n0_; have HB := n1_; clear n0_ n1_; (try clear hb); (try clear hb2); (try clear hk); (try clear hi)) | ((with_reducible refine gate_callee (f := 11) rfl ?_); refine goesL_ (some 18) rfl rfl Try.func11 (by kernel_rfl) rfl #[.slice A0 l0.length c0] rfl al_ ?_; (with_reducible refine (comfitlaw06_Of.calls k _ _ l0 t455 _ ?side1 ?side2 A5.out).mono ?_); (case side1 => exact kc_ (Kd.C_below HR0.out HB.out)); (case side2 => exact HC0.out); rintro e w55 ⟨v456, rfl, ho0, hb⟩; refine ⟨_, rfl, ?_⟩; have n0_ := Aside0.mk (Kd.R_elder' (kr_ (HO452.out)) (Kd.R_base ho0) hb); have n1_ := Aside0.mk (Kd.R_lower (Kd.R_new' ho0 (Kd.R_lt (kr_ (HO452.out)))) (below_size (hb_ HB.out))); have n2_ := Aside0.mk (below_step (hb_ HB.out) hb); clear HO452; clear HB; have HO452 := n0_; have HO457 := n1_; have HB := n2_; clear n0_ n1_ n2_; (try clear hb); (try clear hb2); (try clear hk); (try clear hi); (try clear ho0); obtain ⟨Ao56, co56, eo56⟩ := Kd.R_slice HO457.out; subst eo56) | ((with_reducible refine gate_callee (f := 23) rfl ?_); refine goesL_ (some 19) rfl rfl Try.func23 (by kernel_rfl) rfl #[.slice Ao56 t455.length co56] rfl al_ ?_; (with_reducible refine (tags_Fewer.calls _ _ t455 t458 t459 _ ?side1 ?side2 A6.out).mono ?_); (case side1 => exact kc_ (Kd.R_reads' HO457.out).2.2); (case side2 => exact (Kd.R_reads' HO457.out).2.1); rintro e w57 ⟨v460, rfl, ho0, hb⟩; refine ⟨_, rfl, ?_⟩; have n0_ := Aside0.mk (Kd.R_elder' (kr_ (HO452.out)) (Kd.R_base ho0) hb); have n1_ := Aside0.mk (Kd.R_elder' (kr_ (HO457.out)) (Kd.R_base ho0) hb); have n2_ := Aside0.mk (Kd.R_lower (Kd.R_new' (Kd.R_new' ho0 (Kd.R_lt (kr_ (HO452.out)))) (Kd.R_lt (kr_ (HO457.out)))) (below_size (hb_ HB.out))); have n3_ := Aside0.mk (below_step (hb_ HB.out) hb); clear HO452; clear HO457; clear HB; have HO452 := n0_; have HO457 := n1_; have HO461 := n2_; have HB := n3_; clear n0_ n1_ n2_ n3_; (try clear hb); (try clear hb2); (try clear hk); (try clear hi); (try clear ho0)) | ((with_reducible refine gate_callee (f := 12) rfl ?_); refine goesL_ (some 23) rfl rfl Try.func12 (by kernel_rfl) rfl #[.slice A0 l0.length c0] rfl al_ ?_; (with_reducible refine (comfitref06_Machine.calls k _ _ l0 false _ ?side1 ?side2 A7.out).mono ?_); (case side1 => exact kc_ (Kd.C_below HR0.out HB.out)); (case side2 => exact HC0.out); rintro e w58 ⟨rfl, hb⟩; refine ⟨_, rfl, ?_⟩; have n0_ := Aside0.mk (Kd.R_below (kr_ (HO452.out)) hb); have n1_ := Aside0.mk (Kd.R_below (kr_ (HO457.out)) hb); have n2_ := Aside0.mk (Kd.R_below (kr_ (HO461.out)) hb); have n3_ := Aside0.mk (below_step (hb_ HB.out) hb); clear HO452; clear HO457; clear HO461; clear HB; have HO452 := n0_; have HO457 := n1_; have HO461 := n2_; have HB := n3_; clear n0_ n1_ n2_ n3_; (try clear hb); (try clear hb2); (try clear hk); (try clear hi); obtain ⟨Ao59, co59, eo59⟩ := Kd.R_slice HO461.out; subst eo59) | (go_at_call 14; (with_reducible refine (comfitlaw06_awake.calls k  t463 _ A51.out).mono ?_); rintro e w60 ⟨rfl, hb⟩; have n0_ := Aside0.mk (Kd.R_below (kr_ (HO452.out)) hb); have n1_ := Aside0.mk (Kd.R_below (kr_ (HO457.out)) hb); have n2_ := Aside0.mk (Kd.R_below (kr_ (HO461.out)) hb); have n3_ := Aside0.mk (below_step (hb_ HB.out) hb); clear HO452; clear HO457; clear HO461; clear HB; have HO452 := n0_; have HO457 := n1_; have HO461 := n2_; have HB := n3_; clear n0_ n1_ n2_ n3_; (try clear hb); (try clear hb2); (try clear hk); (try clear hi)))
      go_ret
      exact ⟨by first | rfl | (simp [errW_none, errW_some] <;> rfl) | (simp [*, errW_none, errW_some] <;> rfl), by repeat (first | (with_reducible first | exact HB.out | apply below_alloc | apply pw_below_drewN | apply below_drew1) | exact HB.out)⟩
     ·rw [if_neg c50] at H
      exact absurd H (by simp)
    ·rw [if_neg c49] at H
     exact absurd H (by simp)
   ·rw [if_neg c48] at H
    exact absurd H (by simp)

end Go.Proofs.Ytjmbjnobbeflfaa.X
