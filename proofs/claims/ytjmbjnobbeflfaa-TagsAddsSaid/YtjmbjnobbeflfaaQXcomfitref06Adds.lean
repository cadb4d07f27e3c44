/- Written by a program of this session (wip/tools/xprint.py, which calls the kit's print): Go functions as Lean functions, and for each the proof that the machine's call does what it says; no conditions but those that each theorem names. -/
import Derived.Test.YtjmbjnobbeflfaaQX0
import Derived.Test.YtjmbjnobbeflfaaQXRP
namespace Go.Proofs.Ytjmbjnobbeflfaa.X
open Go.RowKit Go.Proofs.YtjmbjnobbeflfaaW.PrintWords Go.Proofs.YtjmbjnobbeflfaaW.PrintLast Go.Proofs.YtjmbjnobbeflfaaW.PrintMore
attribute [local go_sem] max2_int min2_int max_two min_two max_three min_three max_four min_four   -- for this text's walks alone
set_option linter.unusedVariables false
set_option linter.unusedSimpArgs false

/-! ### comfitref06_Adds: function 27 -/
mutual
def comfitref06_Adds.l0 : Nat → List (S39) → Int → Int → Option (Bool)
 | 0, _, _, _ => none
 | k + 1, x0, x1, x9 => if x9 < 5 then (comfitref06_Adds.l1 k x0 x1 x9 x9 0) else (some true)
def comfitref06_Adds.l1 : Nat → List (S39) → Int → Int → Int → Int → Option (Bool)
 | 0, _, _, _, _, _ => none
 | k + 1, x0, x1, x5, x9, x12 => if x12 < 5 then ((comfitref06_Places.f k x0 x5 x12 1000).bind fun bt445 => (if bt445.2 = true then (if 0 ≤ (wrap64 ((bt445.1.length : Int) - 1)) then (if (wrap64 ((bt445.1.length : Int) - 1)) < (bt445.1.length : Int) then (if x1 = 0 then (comfitref06_Adds.j2 k x0 0 x5 x9 x12 (((rd_T71 bt445.1 (wrap64 ((bt445.1.length : Int) - 1))).f1.f0) != (wrap64 (x5 + x12)))) else (if x1 = 1 then (comfitref06_Adds.j2 k x0 1 x5 x9 x12 (((rd_T71 bt445.1 (wrap64 ((bt445.1.length : Int) - 1))).f1.f1) != (wrap64 (x5 + x12)))) else (none))) else (none)) else (none)) else (comfitref06_Adds.j2 k x0 x1 x5 x9 x12 true))) else (comfitref06_Adds.l0 k x0 x1 (wrap64 (x9 + 1)))
def comfitref06_Adds.j2 : Nat → List (S39) → Int → Int → Int → Int → Bool → Option (Bool)
 | 0, _, _, _, _, _, _ => none
 | k + 1, x0, x1, x5, x9, x12, x39 => if x39 = true then (some false) else (comfitref06_Adds.l1 k x0 x1 x5 x9 (wrap64 (x12 + 1)))
end
def comfitref06_Adds.f (k : Nat) (l0 : List (S39)) (a1 : Int) : Option (Bool) := comfitref06_Adds.l0 k l0 a1 0
set_option maxHeartbeats 8000000 in
set_option maxRecDepth 100000 in
theorem comfitref06_Adds.calls (k : Nat) (A0 : Option Addr) (c0 : Nat) (l0 : List (S39)) (a1 : Int) (r : Bool) (w : World) (hr0 : Kd.C k39 w A0 l0.length l0) (hc0 : l0.length ≤ c0) (h : comfitref06_Adds.f k l0 a1 = some r) :
  Calls Try.prog 27 #[.slice A0 l0.length c0, .int .i64 a1] w fun e w' => e = .returned (.bool r) ∧ Below w.heap.size w w' := by
 have hu23 := Try.underlying23
 have HR0 := Aside0.mk hr0
 have HC0 := Aside0.mk hc0
 clear hr0 hc0
 have HB := Aside0.mk (Below.refl w.heap.size w)
 have H : (comfitref06_Adds.l0 k l0 a1 0) = some r := h
 clear h
 have H' := Aside0.mk H
 clear H
 go_enter Try.func27, Try.ntmps27
 go_wp2
 go_loopg [9] k (fun kq v9 w' => ∃ (x9_1 : Int), v9 = .int .i64 x9_1 ∧ Aside0 (comfitref06_Adds.l0 kq l0 a1 x9_1 = some r) ∧ Aside0 (kq ≤ k) ∧ Aside0 (Below w.heap.size w w'))
 case atStart => exact ⟨(0), (by first | rfl | (simp; done) | (simp [*]; done)), H', ⟨Nat.le_refl _⟩, ⟨by repeat (first | (with_reducible first | exact HB.out | apply below_alloc | apply pw_below_drewN | apply below_drew1) | exact HB.out)⟩⟩
 case round =>
  clear H'
  try clear c2
  try clear p2
  obtain ⟨x9_1, rfl, HA, HK1, HB⟩ := hrel
  cases gk with
  | zero => exact absurd HA.out (by simp [comfitref06_Adds.l0])
  | succ k1 =>
   have H := HA.out
   clear HA
   simp only [comfitref06_Adds.l0] at H
   by_cases c3 : x9_1 < 5
   ·rw [if_pos c3] at H
    have c3b0 : decide (x9_1 < 5) = true := decide_eq_true c3
    clear c3
    have H' := Aside0.mk H
    clear H
    go_wp2
    go_loopg [12] k1 (fun kq v12 w' => ∃ (x12_2 : Int), v12 = .int .i64 x12_2 ∧ Aside0 (comfitref06_Adds.l1 kq l0 a1 x9_1 x9_1 x12_2 = some r) ∧ Aside0 (kq ≤ k1) ∧ Aside0 (Below w.heap.size w w'))
    case atStart => exact ⟨(0), (by first | rfl | (simp; done) | (simp [*]; done)), H', ⟨Nat.le_refl _⟩, ⟨by repeat (first | (with_reducible first | exact HB.out | apply below_alloc | apply pw_below_drewN | apply below_drew1) | exact HB.out)⟩⟩
    case round =>
     clear H'
     try clear c2
     try clear p2
     try clear c3
     try clear c3b0
     try clear p2
     obtain ⟨x12_2, rfl, HA, HK2, HB⟩ := hrel
     cases gk with
     | zero => exact absurd HA.out (by simp [comfitref06_Adds.l1])
     | succ k2 =>
      have H := HA.out
      clear HA
      simp only [comfitref06_Adds.l1] at H
      by_cases c4 : x12_2 < 5
      ·rw [if_pos c4] at H
       have c4b0 : decide (x12_2 < 5) = true := decide_eq_true c4
       clear c4
       replace H := Option.bind_eq_some_iff.mp H
       obtain ⟨⟨t445, t448⟩, A50, H⟩ := H
       replace H : (if t448 = true then (if 0 ≤ (wrap64 ((t445.length : Int) - 1)) then (if (wrap64 ((t445.length : Int) - 1)) < (t445.length : Int) then (if a1 = 0 then (comfitref06_Adds.j2 k2 l0 0 x9_1 x9_1 x12_2 (((rd_T71 t445 (wrap64 ((t445.length : Int) - 1))).f1.f0) != (wrap64 (x9_1 + x12_2)))) else (if a1 = 1 then (comfitref06_Adds.j2 k2 l0 1 x9_1 x9_1 x12_2 (((rd_T71 t445 (wrap64 ((t445.length : Int) - 1))).f1.f1) != (wrap64 (x9_1 + x12_2)))) else (none))) else (none)) else (none)) else (comfitref06_Adds.j2 k2 l0 a1 x9_1 x9_1 x12_2 true)) = some r := H
       have A5 := Aside0.mk A50
       clear A50
       have HC6 := Aside0.mk H
       clear H
       go_upto_region 8 with (first | ((with_reducible refine gate_callee (f := 33) rfl ?_); refine goesL_ (some 20) rfl rfl Try.func33 (by kernel_rfl) rfl #[.slice A0 l0.length c0, .agg #[.int .i64 x9_1, .int .i64 x12_2], .int .i64 1000] rfl al_ ?_; (with_reducible refine (comfitref06_Places.calls k2 _ _ l0 x9_1 x12_2 1000 t445 t448 _ ?side1 ?side2 A5.out).mono ?_); (case side1 => exact kc_ (Kd.C_below HR0.out HB.out)); (case side2 => exact HC0.out); rintro e w7 ⟨v446, rfl, ho0, hb⟩; refine ⟨_, rfl, ?_⟩; have n0_ := Aside0.mk (Kd.R_lower ho0 (below_size (hb_ HB.out))); have n1_ := Aside0.mk (below_step (hb_ HB.out) hb); clear HB; have HO447 := n0_; have HB := n1_; clear n0_ n1_; (try clear hb); (try clear hb2); (try clear hk); (try clear hi); (try clear ho0)))
       (try simp only [Act.put, List.setIfInBounds_toArray, List.set_cons_zero, List.set_cons_succ])
       go_cut [39] (fun v39 wc => ∃ (kq : Nat) (x39_5 : Bool), v39 = .bool x39_5 ∧ Aside0 (comfitref06_Adds.j2 kq l0 a1 x9_1 x9_1 x12_2 x39_5 = some r) ∧ Aside0 (kq ≤ k2) ∧ Aside0 (Below w.heap.size w wc))
       case first =>
        have H := HC6.out
        clear HC6
        by_cases c8 : t448 = true
        ·subst c8
         have H1 : (if 0 ≤ (wrap64 ((t445.length : Int) - 1)) then (if (wrap64 ((t445.length : Int) - 1)) < (t445.length : Int) then (if a1 = 0 then (comfitref06_Adds.j2 k2 l0 0 x9_1 x9_1 x12_2 (((rd_T71 t445 (wrap64 ((t445.length : Int) - 1))).f1.f0) != (wrap64 (x9_1 + x12_2)))) else (if a1 = 1 then (comfitref06_Adds.j2 k2 l0 1 x9_1 x9_1 x12_2 (((rd_T71 t445 (wrap64 ((t445.length : Int) - 1))).f1.f1) != (wrap64 (x9_1 + x12_2)))) else (none))) else (none)) else (none)) = some r := by rw [if_pos rfl] at H; exact H
         clear H
         have H := H1
         clear H1
         obtain ⟨ji9, hji9⟩ : ∃ j_ : Int, (wrap64 ((t445.length : Int) - 1)) = j_ := ⟨_, rfl⟩
         replace H : (if 0 ≤ (ji9) then (if (ji9) < (t445.length : Int) then (if a1 = 0 then (comfitref06_Adds.j2 k2 l0 0 x9_1 x9_1 x12_2 (((rd_T71 t445 (ji9)).f1.f0) != (wrap64 (x9_1 + x12_2)))) else (if a1 = 1 then (comfitref06_Adds.j2 k2 l0 1 x9_1 x9_1 x12_2 (((rd_T71 t445 (ji9)).f1.f1) != (wrap64 (x9_1 + x12_2)))) else (none))) else (none)) else (none)) = some r := by first | (rw [hji9] at H; exact H) | (simp only [hji9] at H ⊢; exact H)
         have hji9w : (IntKind.i64.wrap ((t445.length : Int) - 1)) = ji9 := (i64_w _).trans hji9
         by_cases c10 : 0 ≤ (ji9)
         ·rw [if_pos c10] at H
          have c10b0 : decide (0 ≤ (ji9)) = true := decide_eq_true c10
          clear c10
          (first | rw [c10b0] | (simp only [i64_w, i32_w]; rw [c10b0]) | skip)
          by_cases c11 : (ji9) < (t445.length : Int)
          ·rw [if_pos c11] at H
           have c11b0 : decide ((ji9) < (t445.length : Int)) = true := decide_eq_true c11
           clear c11
           by_cases c12 : a1 = 0
           ·rw [if_pos c12] at H
            subst c12
            have H' := Aside0.mk H
            clear H
            obtain ⟨Ao13, co13, eo13⟩ := Kd.R_slice HO447.out
            subst eo13
            have p449 : 0 ≤ ((ji9) : Int) := of_decide_eq_true (by first | (with_reducible assumption) | assumption)
            have q449 : (ji9) < (t445.length : Int) := of_decide_eq_true (by first | (with_reducible assumption) | assumption)
            obtain ⟨ad449, e449, hx449_0, hx449_1, hx449_2, hx449_3⟩ := at_T71 (Kd.R_reads' HO447.out).2.2 (ji9) p449 q449
            cases e449
            replace p449 := eq_true p449
            replace q449 := eq_true q449
            go_wp2
            go_meet
            case rel => exact ⟨_, ((((rd_T71 t445 (ji9)).f1.f0) != (wrap64 (x9_1 + x12_2)))), (by first | rfl | (simp; done) | (simp only [← hji9] <;> (first | rfl | simp)) | (simp [*]; done)), H', ⟨by have := HK1.out; have := HK2.out; first | omega | exact Nat.le_refl _⟩, ⟨by repeat (first | (with_reducible first | exact HB.out | apply below_alloc | apply pw_below_drewN | apply below_drew1) | exact HB.out)⟩⟩
           ·rw [if_neg c12] at H
            have c12b0 : (a1 == 0) = false := beq_eq_false_iff_ne.mpr c12
            have c12b1 : (a1 != 0) = true := bne_iff_ne.mpr c12
            by_cases c14 : a1 = 1
            ·rw [if_pos c14] at H
             subst c14
             have H' := Aside0.mk H
             clear H
             obtain ⟨Ao15, co15, eo15⟩ := Kd.R_slice HO447.out
             subst eo15
             have p449 : 0 ≤ ((ji9) : Int) := of_decide_eq_true (by first | (with_reducible assumption) | assumption)
             have q449 : (ji9) < (t445.length : Int) := of_decide_eq_true (by first | (with_reducible assumption) | assumption)
             obtain ⟨ad449, e449, hx449_0, hx449_1, hx449_2, hx449_3⟩ := at_T71 (Kd.R_reads' HO447.out).2.2 (ji9) p449 q449
             cases e449
             replace p449 := eq_true p449
             replace q449 := eq_true q449
             go_wp2
             go_meet
             case rel => exact ⟨_, ((((rd_T71 t445 (ji9)).f1.f1) != (wrap64 (x9_1 + x12_2)))), (by first | rfl | (simp; done) | (simp only [← hji9] <;> (first | rfl | simp)) | (simp [*]; done)), H', ⟨by have := HK1.out; have := HK2.out; first | omega | exact Nat.le_refl _⟩, ⟨by repeat (first | (with_reducible first | exact HB.out | apply below_alloc | apply pw_below_drewN | apply below_drew1) | exact HB.out)⟩⟩
            ·rw [if_neg c14] at H
             exact absurd H (by simp)
          ·rw [if_neg c11] at H
           exact absurd H (by simp)
         ·rw [if_neg c10] at H
          exact absurd H (by simp)
        ·replace c8 := Bool.eq_false_iff.mpr c8
         subst c8
         have H1 : (comfitref06_Adds.j2 k2 l0 a1 x9_1 x9_1 x12_2 true) = some r := by rw [if_neg (show ¬ (false = true) by decide)] at H; exact H
         clear H
         have H := H1
         clear H1
         have H' := Aside0.mk H
         clear H
         go_wp2
         go_meet
         case rel => exact ⟨_, (true), (by first | rfl | (simp; done) | (simp [*]; done)), H', ⟨by have := HK1.out; have := HK2.out; first | omega | exact Nat.le_refl _⟩, ⟨by repeat (first | (with_reducible first | exact HB.out | apply below_alloc | apply pw_below_drewN | apply below_drew1) | exact HB.out)⟩⟩
       case rest =>
        clear HC6
        try clear c1
        try clear c2
        try clear p2
        try clear c3
        try clear c3b0
        try clear c4
        try clear c4b0
        try clear p4
        try clear q4
        try clear hx4
        try clear p6
        try clear c8
        try clear c10
        try clear c10b0
        try clear c11
        try clear c11b0
        try clear c12
        try clear c12b0
        try clear c12b1
        try clear c14
        try clear hx449_0
        try clear hx449_1
        try clear hx449_2
        try clear hx449_3
        try clear p2
        try clear p449
        try clear q449
        obtain ⟨kq, x39_5, rfl, HA, HJ5, HB⟩ := hcut
        cases kq with
        | zero => exact absurd HA.out (by simp [comfitref06_Adds.j2])
        | succ kj5 =>
         have H := HA.out
         clear HA
         simp only [comfitref06_Adds.j2] at H
         by_cases c16 : x39_5 = true
         ·subst c16
          have H1 : (some false) = some r := by rw [if_pos rfl] at H; exact H
          clear H
          have H := H1
          clear H1
          obtain rfl := Option.some.inj H
          go_wp2
          go_ret
          exact ⟨by first | rfl | (simp [errW_none, errW_some] <;> rfl) | (simp [*, errW_none, errW_some] <;> rfl), by repeat (first | (with_reducible first | exact HB.out | apply below_alloc | apply pw_below_drewN | apply below_drew1) | exact HB.out)⟩
         ·replace c16 := Bool.eq_false_iff.mpr c16
          subst c16
          have H1 : (comfitref06_Adds.l1 kj5 l0 a1 x9_1 x9_1 (wrap64 (x12_2 + 1))) = some r := by rw [if_neg (show ¬ (false = true) by decide)] at H; exact H
          clear H
          have H := H1
          clear H1
          have H' := Aside0.mk H
          clear H
          go_wp2
          go_roundg kj5
          case measure => have := HK1.out; have := HK2.out; have := HJ5.out; omega
          case rel => exact ⟨(wrap64 (x12_2 + 1)), (by first | rfl | (simp; done) | (simp [*]; done)), H', ⟨by have := HK1.out; have := HK2.out; have := HJ5.out; omega⟩, ⟨by repeat (first | (with_reducible first | exact HB.out | apply below_alloc | apply pw_below_drewN | apply below_drew1) | exact HB.out)⟩⟩
      ·rw [if_neg c4] at H
       have c4b0 : decide (x12_2 < 5) = false := decide_eq_false c4
       clear c4
       have H' := Aside0.mk H
       clear H
       go_wp2
       go_roundg k2
       case measure => have := HK1.out; have := HK2.out; omega
       case rel => exact ⟨(wrap64 (x9_1 + 1)), (by first | rfl | (simp; done) | (simp [*]; done)), H', ⟨by have := HK1.out; have := HK2.out; omega⟩, ⟨by repeat (first | (with_reducible first | exact HB.out | apply below_alloc | apply pw_below_drewN | apply below_drew1) | exact HB.out)⟩⟩
   ·rw [if_neg c3] at H
    have c3b0 : decide (x9_1 < 5) = false := decide_eq_false c3
    clear c3
    obtain rfl := Option.some.inj H
    go_wp2
    go_ret
    exact ⟨by first | rfl | (simp [errW_none, errW_some] <;> rfl) | (simp [*, errW_none, errW_some] <;> rfl), by repeat (first | (with_reducible first | exact HB.out | apply below_alloc | apply pw_below_drewN | apply below_drew1) | exact HB.out)⟩

end Go.Proofs.Ytjmbjnobbeflfaa.X
