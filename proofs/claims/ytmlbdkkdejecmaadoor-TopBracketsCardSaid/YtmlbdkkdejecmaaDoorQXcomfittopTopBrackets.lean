/- Written by a program of this session (wip/tools/xprint.py, which calls the kit's print): Go functions as Lean functions, and for each the proof that the machine's call does what it says; no conditions but those that each theorem names. -/
import Derived.Test.YtmlbdkkdejecmaaDoorQX0
import Derived.Test.YtmlbdkkdejecmaaDoorQXP
import Derived.Test.YtmlbdkkdejecmaaDoorQXR
import Derived.Test.YtmlbdkkdejecmaaDoorQXRe
import Derived.Test.YtmlbdkkdejecmaaDoorQXS
import Derived.Test.YtmlbdkkdejecmaaDoorQXTr
namespace Go.Proofs.YtmlbdkkdejecmaaDoor.X
open Go.RowKit Go.Proofs.YtmlbdkkdejecmaaDoorW.PrintWords Go.Proofs.YtmlbdkkdejecmaaDoorW.PrintLast Go.Proofs.YtmlbdkkdejecmaaDoorW.PrintMore
attribute [local go_sem] max2_int min2_int max_two min_two max_three min_three max_four min_four   -- for this text's walks alone
set_option linter.unusedVariables false
set_option linter.unusedSimpArgs false

/-! ### comfittop_TopBrackets: function 3 -/
mutual
def comfittop_TopBrackets.j0 : Nat → List Int → Bool → Int → Bool → Option (Bool)
 | 0, _, _, _, _ => none
 | k + 1, x0, x3, x4, x27 => if x27 = true then (if x4 = 2 then ((comfittop_reads.f k).bind fun t193 => (some t193)) else (none)) else (if ((x0.length : Int) % 2) = 1 then ((comfittop_reads.f k).bind fun t194 => (some t194)) else (comfittop_TopBrackets.l0 k x3 (⟨#[]⟩ : ByteArray) true ([] : List Int) x0 (x0.length : Int) 0))
def comfittop_TopBrackets.j3 : Nat → Bool → ByteArray → Bool → Option (Bool)
 | 0, _, _, _ => none
 | k + 1, x3, x5, x6 => if x6 = true then ((tables_Trees.f k (([(⟨65, (⟨#[97, 65, 98, 65]⟩ : ByteArray)⟩ : S32), (⟨65, (⟨#[]⟩ : ByteArray)⟩ : S32)] : List (S32))) x5).bind fun bt208 => (if bt208.2 = 0 then (if bt208.1 = 1 then ((comfittop_reads.f k).bind fun t210 => (some t210)) else (none)) else (none))) else (if x3 = true then (none) else ((comfittop_reads.f k).bind fun t204 => (some t204)))
def comfittop_TopBrackets.l0 : Nat → Bool → ByteArray → Bool → List Int → List Int → Int → Int → Option (Bool)
 | 0, _, _, _, _, _, _, _ => none
 | k + 1, x3, x5, x6, x7, x38, x39, x40 => if x40 < x39 then (if 0 ≤ x40 then (if x40 < (x38.length : Int) then (if (x7.length : Int) > 0 then (if 0 ≤ (wrap64 ((x7.length : Int) - 1)) then (if (wrap64 ((x7.length : Int) - 1)) < (x7.length : Int) then (comfittop_TopBrackets.j2 k x3 x5 x6 x7 (rd x38 x40) x38 x39 x40 ((rd x7 (wrap64 ((x7.length : Int) - 1))) == (Go.bits .xor .i64 (rd x38 x40) 1))) else (none)) else (none)) else (comfittop_TopBrackets.j2 k x3 x5 x6 x7 (rd x38 x40) x38 x39 x40 false)) else (none)) else (none)) else (comfittop_TopBrackets.j3 k x3 x5 x6)
def comfittop_TopBrackets.j2 : Nat → Bool → ByteArray → Bool → List Int → Int → List Int → Int → Int → Bool → Option (Bool)
 | 0, _, _, _, _, _, _, _, _, _ => none
 | k + 1, x3, x5, x6, x7, x9, x38, x39, x40, x57 => if x57 = true then (if 0 ≤ (wrap64 ((x7.length : Int) - 1)) then (if (wrap64 ((x7.length : Int) - 1)) ≤ (x7.length : Int) then (if x5.size + 1 ≤ 9223372036854775807 then (comfittop_TopBrackets.l0 k x3 (x5 ++ (⟨#[98]⟩ : ByteArray)) x6 (x7.take ((wrap64 ((x7.length : Int) - 1)) : Int).toNat) x38 x39 (wrap64 (x40 + 1))) else (none)) else (none)) else (none)) else ((slices_Contains_int_int.f k x7 (Go.bits .xor .i64 x9 1)).bind fun t200 => (if t200 = true then (comfittop_TopBrackets.j3 k x3 x5 false) else (if x7.length < 17592186044416 then (if x5.size + 1 ≤ 9223372036854775807 then (comfittop_TopBrackets.l0 k x3 (x5 ++ (⟨#[97]⟩ : ByteArray)) x6 (x7 ++ [x9]) x38 x39 (wrap64 (x40 + 1))) else (none)) else (none))))
end
def comfittop_TopBrackets.f (k : Nat) (l0 : List Int) : Option (Bool) := if 0 ≤ (mn (l0.length : Int) 9) then (if (mn (l0.length : Int) 9) ≤ (l0.length : Int) then ((slices_Clone_int_int.f (l0.take ((mn (l0.length : Int) 9) : Int).toNat)).bind fun t187 => ((folds_Possible.f k t187).bind fun bt190 => (if bt190.2 = 0 then ((comfitref03_Pile.f k l0 7).bind fun t192 => (comfittop_TopBrackets.j0 k l0 bt190.1 bt190.2 (!t192))) else (comfittop_TopBrackets.j0 k l0 bt190.1 bt190.2 true)))) else (none)) else (none)
set_option maxHeartbeats 8000000 in
set_option maxRecDepth 100000 in
theorem comfittop_TopBrackets.calls (k : Nat) (A0 : Option Addr) (c0 : Nat) (l0 : List Int) (r : Bool) (w : World) (hr0 : Kd.C (Kd.int .i64) w A0 l0.length l0) (hc0 : l0.length ≤ c0) (h : comfittop_TopBrackets.f k l0 = some r) :
  Calls Tryd.prog 3 #[.slice A0 l0.length c0] w fun e w' => e = .returned (.bool r) ∧ Below w.heap.size w w' := by
 have hu32 := Tryd.underlying32
 have HR0 := Aside0.mk hr0
 have HC0 := Aside0.mk hc0
 clear hr0 hc0
 have HB := Aside0.mk (Below.refl w.heap.size w)
 have H : (if 0 ≤ (mn (l0.length : Int) 9) then (if (mn (l0.length : Int) 9) ≤ (l0.length : Int) then ((slices_Clone_int_int.f (l0.take ((mn (l0.length : Int) 9) : Int).toNat)).bind fun t187 => ((folds_Possible.f k t187).bind fun bt190 => (if bt190.2 = 0 then ((comfitref03_Pile.f k l0 7).bind fun t192 => (comfittop_TopBrackets.j0 k l0 bt190.1 bt190.2 (!t192))) else (comfittop_TopBrackets.j0 k l0 bt190.1 bt190.2 true)))) else (none)) else (none)) = some r := h
 clear h
 obtain ⟨ji2, hji2⟩ : ∃ j_ : Int, (mn (l0.length : Int) 9) = j_ := ⟨_, rfl⟩
 replace H : (if 0 ≤ (ji2) then (if (ji2) ≤ (l0.length : Int) then ((slices_Clone_int_int.f (l0.take ((ji2) : Int).toNat)).bind fun t187 => ((folds_Possible.f k t187).bind fun bt190 => (if bt190.2 = 0 then ((comfitref03_Pile.f k l0 7).bind fun t192 => (comfittop_TopBrackets.j0 k l0 bt190.1 bt190.2 (!t192))) else (comfittop_TopBrackets.j0 k l0 bt190.1 bt190.2 true)))) else (none)) else (none)) = some r := by first | (rw [hji2] at H; exact H) | (simp only [hji2] at H ⊢; exact H)
 (try (have hji2h : ji2 ≤ 9 := by (rw [← hji2]; unfold mn; (repeat' split) <;> omega)))
 (try (have hji2g : ji2 ≤ 64 := by omega))
 (try (have hji2l : 0 ≤ ji2 := by (rw [← hji2]; unfold mn; (repeat' split) <;> omega)))
 (try (have hji2m : 0 ≤ ji2 := by omega))
 have hji2_ : (if 9 < (l0.length : Int) then 9 else (l0.length : Int)) = ji2 := hji2
 by_cases c3 : 0 ≤ (ji2)
 ·rw [if_pos c3] at H
  have c3b0 := eq_true c3
  have c3b1 : decide (0 ≤ (ji2)) = true := decide_eq_true c3
  clear c3
  by_cases c4 : (ji2) ≤ (l0.length : Int)
  ·rw [if_pos c4] at H
   have c4b0 := eq_true c4
   have c4b1 : decide ((ji2) ≤ (l0.length : Int)) = true := decide_eq_true c4
   clear c4
   obtain ⟨y183, hy183⟩ : ∃ y_ : List Int, y_ = (l0.take ((ji2) : Int).toNat) := ⟨_, rfl⟩
   replace H : ((slices_Clone_int_int.f y183).bind fun t187 => ((folds_Possible.f k t187).bind fun bt190 => (if bt190.2 = 0 then ((comfitref03_Pile.f k l0 7).bind fun t192 => (comfittop_TopBrackets.j0 k l0 bt190.1 bt190.2 (!t192))) else (comfittop_TopBrackets.j0 k l0 bt190.1 bt190.2 true)))) = some r := by first | (rw [hy183]; with_reducible exact H) | (have H2_ := (Option.bind_some _ _).symm.trans H; rw [hy183]; with_reducible exact H2_) | (have H2_ := (Option.bind_some _ _).symm.trans H; with_reducible exact H2_) | with_reducible exact H | (rw [hy183]; exact H) | exact H
   have Ny183 := Aside0.mk hy183
   clear hy183
   replace H := Option.bind_eq_some_iff.mp H
   obtain ⟨t187, A50, H⟩ := H
   replace H : ((folds_Possible.f k t187).bind fun bt190 => (if bt190.2 = 0 then ((comfitref03_Pile.f k l0 7).bind fun t192 => (comfittop_TopBrackets.j0 k l0 bt190.1 bt190.2 (!t192))) else (comfittop_TopBrackets.j0 k l0 bt190.1 bt190.2 true))) = some r := H
   have A5 := Aside0.mk A50
   clear A50
   replace H := Option.bind_eq_some_iff.mp H
   obtain ⟨⟨t190, t191⟩, A60, H⟩ := H
   replace H : (if t191 = 0 then ((comfitref03_Pile.f k l0 7).bind fun t192 => (comfittop_TopBrackets.j0 k l0 t190 t191 (!t192))) else (comfittop_TopBrackets.j0 k l0 t190 t191 true)) = some r := H
   have A6 := Aside0.mk A60
   clear A60
   have HC7 := Aside0.mk H
   clear H
   have q8 : ((ji2) : Int) ≤ ((l0.length : Int) : Int) := of_decide_eq_true (by first | (with_reducible assumption) | assumption)
   obtain ⟨i08, hi08, _, hsz8, _⟩ := info_parts info3
   have hroom8 : l0.length ≤ c0 := HC0.out
   have hC8 : Kd.C (Kd.int .i64) _ A0 l0.length l0 := HR0.out
   have hcut8 := cut_to (P := Tryd.prog) 22 3 .i64 Tryd.underlying22 hi08 A0 l0.length c0 (ji2) (of_decide_eq_true (by first | (with_reducible assumption) | assumption)) q8 hroom8
   have hr8 := Kd.C_take (m := ((ji2) : Int).toNat) hC8 (by omega)
   have hy8 : y183.length = ((ji2) : Int).toNat := (by rw [Ny183.out, List.length_take]; omega)
   rw [← Ny183.out] at hr8
   rw [← hy8] at hcut8
   have HR186 := Aside0.mk hr8
   have HC186 := Aside0.mk (show y183.length ≤ c0 from by omega)
   clear hr8 hC8 hroom8 hi08 hsz8
   have KY8 := Aside0.mk hy8
   clear hy8
   replace q8 := eq_true q8
   go_enter Tryd.func3, Tryd.ntmps3
   go_upto_region 2 with (first | ((with_reducible refine gate_callee (f := 5) rfl ?_); refine goesL_ (some 17) rfl rfl Tryd.func5 (by kernel_rfl) rfl #[.slice A0 y183.length c0] rfl al_ ?_; (with_reducible refine (slices_Clone_int_int.calls _ _ y183 t187 _ ?side1 ?side2 A5.out).mono ?_); (case side1 => repeat (first | exact HR186.out | (with_reducible refine Kd.C_alloc ?_ _) | (with_reducible refine Kd.C_drewN ?_ _) | (with_reducible refine Kd.C_drew ?_))); (case side2 => exact HC186.out); rintro e w9 ⟨v188, rfl, ho0, hb⟩; refine ⟨_, rfl, ?_⟩; have n0_ := Aside0.mk (Kd.R_lower ho0 (below_size (hb_ HB.out))); have n1_ := Aside0.mk (below_step (hb_ HB.out) hb); clear HB; have HO189 := n0_; have HB := n1_; clear n0_ n1_; (try clear hb); (try clear hb2); (try clear hk); (try clear hi); (try clear ho0); obtain ⟨Ao10, co10, eo10⟩ := Kd.R_slice HO189.out; subst eo10) | ((with_reducible refine gate_callee (f := 4) rfl ?_); refine goesL_ (some 18) rfl rfl Tryd.func4 (by kernel_rfl) rfl #[.slice Ao10 t187.length co10] rfl al_ ?_; (with_reducible refine (folds_Possible.calls k _ _ t187 t190 t191 _ ?side1 ?side2 A6.out).mono ?_); (case side1 => exact kc_ (Kd.R_reads' HO189.out).2.2); (case side2 => exact (Kd.R_reads' HO189.out).2.1); rintro e w11 ⟨rfl, hb⟩; refine ⟨_, rfl, ?_⟩; have n0_ := Aside0.mk (Kd.R_below (kr_ (HO189.out)) hb); have n1_ := Aside0.mk (below_step (hb_ HB.out) hb); clear HO189; clear HB; have HO189 := n0_; have HB := n1_; clear n0_ n1_; (try clear hb); (try clear hb2); (try clear hk); (try clear hi)))
   (try simp only [Act.put, List.setIfInBounds_toArray, List.set_cons_zero, List.set_cons_succ])
   go_cut [27] (fun v27 wc => ∃ (kq : Nat) (x27_6 : Bool), v27 = .bool x27_6 ∧ Aside0 (comfittop_TopBrackets.j0 kq l0 t190 t191 x27_6 = some r) ∧ Aside0 (kq ≤ k) ∧ Aside0 (Below w.heap.size w wc))
   case first =>
    have H := HC7.out
    clear HC7
    by_cases c12 : t191 = 0
    ·rw [if_pos c12] at H
     have c12b0 : (t191 == 0) = true := beq_iff_eq.mpr c12
     have c12b1 : (t191 != 0) = false := bne_eq_false_iff_eq.mpr c12
     clear c12
     (first | rw [c12b0] | (simp only [i64_w, i32_w]; rw [c12b0]) | skip)
     replace H := Option.bind_eq_some_iff.mp H
     obtain ⟨t192, A130, H⟩ := H
     replace H : (comfittop_TopBrackets.j0 k l0 t190 t191 (!t192)) = some r := H
     have A13 := Aside0.mk A130
     clear A130
     have H' := Aside0.mk H
     clear H
     go_wp2_with (first | (go_at_call 6; (with_reducible refine (comfitref03_Pile.calls k _ _ l0 7 t192 _ ?side1 ?side2 A13.out).mono ?_); (case side1 => exact kc_ (Kd.C_below HR0.out HB.out)); (case side2 => exact HC0.out); rintro e w' ⟨rfl, ⟨nd, rfl⟩⟩))
     go_meet
     case rel => exact ⟨_, (!t192), (by first | rfl | (simp; done) | (simp [*]; done)), H', ⟨by first | omega | exact Nat.le_refl _⟩, ⟨by repeat (first | (with_reducible first | exact HB.out | apply below_alloc | apply pw_below_drewN | apply below_drew1) | exact HB.out)⟩⟩
    ·rw [if_neg c12] at H
     have c12b0 : (t191 == 0) = false := beq_eq_false_iff_ne.mpr c12
     have c12b1 : (t191 != 0) = true := bne_iff_ne.mpr c12
     (first | rw [c12b0] | (simp only [i64_w, i32_w]; rw [c12b0]) | skip)
     have H' := Aside0.mk H
     clear H
     go_wp2
     go_meet
     case rel => exact ⟨_, (true), (by first | rfl | (simp; done) | (simp [*]; done)), H', ⟨by first | omega | exact Nat.le_refl _⟩, ⟨by repeat (first | (with_reducible first | exact HB.out | apply below_alloc | apply pw_below_drewN | apply below_drew1) | exact HB.out)⟩⟩
   case rest =>
    clear HC7
    try clear c1
    try clear p2
    try clear c3
    try clear c3b0
    try clear c3b1
    try clear c4
    try clear c4b0
    try clear c4b1
    try clear c5
    try clear q8
    try clear c12
    try clear c12b0
    try clear c12b1
    try clear q8
    obtain ⟨kq, x27_6, rfl, HA, HJ6, HB⟩ := hcut
    cases kq with
    | zero => exact absurd HA.out (by simp [comfittop_TopBrackets.j0])
    | succ kj6 =>
     have H := HA.out
     clear HA
     simp only [comfittop_TopBrackets.j0] at H
     by_cases c14 : x27_6 = true
     ·subst c14
      have H1 : (if t191 = 2 then ((comfittop_reads.f kj6).bind fun t193 => (some t193)) else (none)) = some r := by rw [if_pos rfl] at H; exact H
      clear H
      have H := H1
      clear H1
      by_cases c15 : t191 = 2
      ·rw [if_pos c15] at H
       have c15b0 : (t191 == 2) = true := beq_iff_eq.mpr c15
       have c15b1 : (t191 != 2) = false := bne_eq_false_iff_eq.mpr c15
       clear c15
       replace H := Option.bind_eq_some_iff.mp H
       obtain ⟨t193, A160, H⟩ := H
       replace H : (some t193) = some r := H
       have A16 := Aside0.mk A160
       clear A160
       obtain rfl := Option.some.inj H
       go_wp2_with (first | (go_at_call 7; (with_reducible refine (comfittop_reads.calls kj6  t193 _ A16.out).mono ?_); rintro e w17 ⟨rfl, hb⟩; have n0_ := Aside0.mk (below_step (hb_ HB.out) hb); clear HB; have HB := n0_; clear n0_; (try clear hb); (try clear hb2); (try clear hk); (try clear hi)))
       go_ret
       exact ⟨by first | rfl | (simp [errW_none, errW_some] <;> rfl) | (simp only [← hji2]; first | rfl | (simp [errW_none, errW_some] <;> rfl)) | (simp [*, errW_none, errW_some] <;> rfl), by repeat (first | (with_reducible first | exact HB.out | apply below_alloc | apply pw_below_drewN | apply below_drew1) | exact HB.out)⟩
      ·rw [if_neg c15] at H
       exact absurd H (by simp)
     ·replace c14 := Bool.eq_false_iff.mpr c14
      subst c14
      have H1 : (if ((l0.length : Int) % 2) = 1 then ((comfittop_reads.f kj6).bind fun t194 => (some t194)) else (comfittop_TopBrackets.l0 kj6 t190 (⟨#[]⟩ : ByteArray) true ([] : List Int) l0 (l0.length : Int) 0)) = some r := by rw [if_neg (show ¬ (false = true) by decide)] at H; exact H
      clear H
      have H := H1
      clear H1
      by_cases c18 : ((l0.length : Int) % 2) = 1
      ·rw [if_pos c18] at H
       have c18b0 : (((l0.length : Int) % 2) == 1) = true := beq_iff_eq.mpr c18
       have c18b1 : (((l0.length : Int) % 2) != 1) = false := bne_eq_false_iff_eq.mpr c18
       clear c18
       replace H := Option.bind_eq_some_iff.mp H
       obtain ⟨t194, A190, H⟩ := H
       replace H : (some t194) = some r := H
       have A19 := Aside0.mk A190
       clear A190
       obtain rfl := Option.some.inj H
       go_wp2_with (first | ((with_reducible refine gate_callee (f := 7) rfl ?_); refine goesL_ (some 37) rfl rfl Tryd.func7 (by kernel_rfl) rfl #[] rfl al_ ?_; (with_reducible refine (comfittop_reads.calls kj6  t194 _ A19.out).mono ?_); rintro e w20 ⟨rfl, hb⟩; refine ⟨_, rfl, ?_⟩; have n0_ := Aside0.mk (below_step (hb_ HB.out) hb); clear HB; have HB := n0_; clear n0_; (try clear hb); (try clear hb2); (try clear hk); (try clear hi)))
       go_ret
       exact ⟨by first | rfl | (simp [errW_none, errW_some] <;> rfl) | (simp only [← hji2]; first | rfl | (simp [errW_none, errW_some] <;> rfl)) | (simp [*, errW_none, errW_some] <;> rfl), by repeat (first | (with_reducible first | exact HB.out | apply below_alloc | apply pw_below_drewN | apply below_drew1) | exact HB.out)⟩
      ·rw [if_neg c18] at H
       have c18b0 : (((l0.length : Int) % 2) == 1) = false := beq_eq_false_iff_ne.mpr c18
       have c18b1 : (((l0.length : Int) % 2) != 1) = true := bne_iff_ne.mpr c18
       have HC21 := Aside0.mk H
       clear H
       go_upto_block 0 with (fail)
       go_cut [5, 6] (fun v5 v6 wc => ∃ (kq : Nat) (x5_20 : ByteArray) (x6_20 : Bool), v5 = .string x5_20 ∧ v6 = .bool x6_20 ∧ Aside0 (comfittop_TopBrackets.j3 kq t190 x5_20 x6_20 = some r) ∧ Aside0 (kq ≤ kj6) ∧ Aside0 (Below w.heap.size w wc))
       case first =>
        have H := HC21.out
        clear HC21
        have H' := Aside0.mk H
        clear H
        go_wp2
        go_loopg [5, 6, 7, 40] kj6 (fun kq v5 v6 v7 v40 w' => ∃ (x5_2 : ByteArray) (x6_2 : Bool) (x7_2 : List Int) (x40_2 : Int), v5 = .string x5_2 ∧ v6 = .bool x6_2 ∧ v40 = .int .i64 x40_2 ∧ Aside0 (comfittop_TopBrackets.l0 kq t190 x5_2 x6_2 x7_2 l0 (l0.length : Int) x40_2 = some r) ∧ Aside0 (kq ≤ kj6) ∧ Aside0 (Kd.R (Kd.int .i64) 3 w' w.heap.size (fun _ => True) v7 x7_2) ∧ Aside0 (Below w.heap.size w w'))
        case atStart => exact ⟨((⟨#[]⟩ : ByteArray)), (true), (([] : List Int)), (0), (by first | rfl | (simp; done) | (simp [*]; done)), (by first | rfl | (simp; done) | (simp [*]; done)), (by first | rfl | (simp; done) | (simp [*]; done)), H', ⟨Nat.le_refl _⟩, ⟨by first | exact Kd.R_nil _ _ _ _ _ | exact Kd.N_nil _ _ _ _ _ | exact Kd.V_nil _ _ _ _ _ | exact Kd.Q_nil _ _ _ _ _ | exact Kd.S_nil _ _ _ _ _⟩, ⟨by repeat (first | (with_reducible first | exact HB.out | apply below_alloc | apply pw_below_drewN | apply below_drew1) | exact HB.out)⟩⟩
        case round =>
         clear H'
         try clear c1
         try clear p2
         try clear c3
         try clear c3b0
         try clear c3b1
         try clear c4
         try clear c4b0
         try clear c4b1
         try clear c5
         try clear c7
         try clear q8
         try clear c12
         try clear c12b0
         try clear c12b1
         try clear c14
         try clear c15
         try clear c15b0
         try clear c15b1
         try clear c18
         try clear c18b0
         try clear c18b1
         try clear p2
         try clear q8
         obtain ⟨x5_2, x6_2, x7_2, x40_2, rfl, rfl, rfl, HA, HK2, HO_7, HB⟩ := hrel
         cases gk with
         | zero => exact absurd HA.out (by simp [comfittop_TopBrackets.l0])
         | succ k2 =>
          have H := HA.out
          clear HA
          simp only [comfittop_TopBrackets.l0] at H
          by_cases c22 : x40_2 < (l0.length : Int)
          ·rw [if_pos c22] at H
           have c22b0 : decide (x40_2 < (l0.length : Int)) = true := decide_eq_true c22
           clear c22
           (first | rw [c22b0] | (simp only [i64_w, i32_w]; rw [c22b0]) | skip)
           by_cases c23 : 0 ≤ x40_2
           ·rw [if_pos c23] at H
            have c23b0 : decide (0 ≤ x40_2) = true := decide_eq_true c23
            clear c23
            by_cases c24 : x40_2 < (l0.length : Int)
            ·rw [if_pos c24] at H
             have c24b0 : decide (x40_2 < (l0.length : Int)) = true := decide_eq_true c24
             clear c24
             have HC25 := Aside0.mk H
             clear H
             have p195 : 0 ≤ (x40_2 : Int) := of_decide_eq_true (by first | (with_reducible assumption) | assumption)
             have q195 : x40_2 < (l0.length : Int) := of_decide_eq_true (by first | (with_reducible assumption) | assumption)
             obtain ⟨ad195, e195, hx195_0⟩ := Kd.at_int HR0.out x40_2 p195 q195
             cases e195
             replace hx195_0 := (HB.out.cell (World.block_lt_of_cell? w _ hx195_0)).trans hx195_0
             replace p195 := eq_true p195
             replace q195 := eq_true q195
             go_upto_region 11 with (fail)
             go_cut [57] (fun v57 wc => ∃ (kq : Nat) (x57_24 : Bool), v57 = .bool x57_24 ∧ Aside0 (comfittop_TopBrackets.j2 kq t190 x5_2 x6_2 x7_2 (rd l0 x40_2) l0 (l0.length : Int) x40_2 x57_24 = some r) ∧ Aside0 (kq ≤ k2) ∧ Aside0 (Kd.R (Kd.int .i64) 3 wc w.heap.size (fun _ => True) u7 x7_2) ∧ Aside0 (Below w.heap.size w wc))
             case first =>
              have H := HC25.out
              clear HC25
              by_cases c26 : (x7_2.length : Int) > 0
              ·rw [if_pos c26] at H
               have c26b0 : decide (0 < (x7_2.length : Int)) = true := decide_eq_true c26
               have c26b1 : decide (0 < x7_2.length) = true := decide_eq_true (by omega)
               clear c26
               (first | rw [c26b0] | (simp only [i64_w, i32_w]; rw [c26b0]) | skip)
               obtain ⟨ji27, hji27⟩ : ∃ j_ : Int, (wrap64 ((x7_2.length : Int) - 1)) = j_ := ⟨_, rfl⟩
               replace H : (if 0 ≤ (ji27) then (if (ji27) < (x7_2.length : Int) then (comfittop_TopBrackets.j2 k2 t190 x5_2 x6_2 x7_2 (rd l0 x40_2) l0 (l0.length : Int) x40_2 ((rd x7_2 (ji27)) == (Go.bits .xor .i64 (rd l0 x40_2) 1))) else (none)) else (none)) = some r := by first | (rw [hji27] at H; exact H) | (simp only [hji27] at H ⊢; exact H)
               have hji27w : (IntKind.i64.wrap ((x7_2.length : Int) - 1)) = ji27 := (i64_w _).trans hji27
               by_cases c28 : 0 ≤ (ji27)
               ·rw [if_pos c28] at H
                have c28b0 : decide (0 ≤ (ji27)) = true := decide_eq_true c28
                clear c28
                by_cases c29 : (ji27) < (x7_2.length : Int)
                ·rw [if_pos c29] at H
                 have c29b0 : decide ((ji27) < (x7_2.length : Int)) = true := decide_eq_true c29
                 clear c29
                 have H' := Aside0.mk H
                 clear H
                 obtain ⟨Ao30, co30, eo30⟩ := Kd.R_slice HO_7.out
                 subst eo30
                 have p196 : 0 ≤ ((ji27) : Int) := of_decide_eq_true (by first | (with_reducible assumption) | assumption)
                 have q196 : (ji27) < (x7_2.length : Int) := of_decide_eq_true (by first | (with_reducible assumption) | assumption)
                 obtain ⟨ad196, e196, hx196_0⟩ := Kd.at_int (Kd.R_reads' HO_7.out).2.2 (ji27) p196 q196
                 cases e196
                 replace p196 := eq_true p196
                 replace q196 := eq_true q196
                 go_wp2
                 go_meet
                 case rel => exact ⟨_, (((rd x7_2 (ji27)) == (Go.bits .xor .i64 (rd l0 x40_2) 1))), (by first | rfl | (simp; done) | (simp only [← hji27] <;> (first | rfl | simp)) | (simp [*]; done)), H', ⟨by have := HJ6.out; have := HK2.out; first | omega | exact Nat.le_refl _⟩, ⟨by (with_reducible repeat (first | apply Kd.R_alloc | apply Kd.R_drewN | apply Kd.R_drew)); exact HO_7.out⟩, ⟨by repeat (first | (with_reducible first | exact HB.out | apply below_alloc | apply pw_below_drewN | apply below_drew1) | exact HB.out)⟩⟩
                ·rw [if_neg c29] at H
                 exact absurd H (by simp)
               ·rw [if_neg c28] at H
                exact absurd H (by simp)
              ·rw [if_neg c26] at H
               have c26b0 : decide (0 < (x7_2.length : Int)) = false := decide_eq_false c26
               have c26b1 : decide (0 < x7_2.length) = false := decide_eq_false (by omega)
               clear c26
               (first | rw [c26b0] | (simp only [i64_w, i32_w]; rw [c26b0]) | skip)
               have H' := Aside0.mk H
               clear H
               obtain ⟨Ao31, co31, eo31⟩ := Kd.R_slice HO_7.out
               subst eo31
               go_wp2
               go_meet
               case rel => exact ⟨_, (false), (by first | rfl | (simp; done) | (simp [*]; done)), H', ⟨by have := HJ6.out; have := HK2.out; first | omega | exact Nat.le_refl _⟩, ⟨by (with_reducible repeat (first | apply Kd.R_alloc | apply Kd.R_drewN | apply Kd.R_drew)); exact HO_7.out⟩, ⟨by repeat (first | (with_reducible first | exact HB.out | apply below_alloc | apply pw_below_drewN | apply below_drew1) | exact HB.out)⟩⟩
             case rest =>
              clear HC25
              try clear c1
              try clear p1
              try clear q1
              try clear hx1
              try clear c2
              try clear p2
              try clear c3
              try clear c3b0
              try clear c3b1
              try clear c4
              try clear c4b0
              try clear c4b1
              try clear c5
              try clear p6
              try clear c7
              try clear q8
              try clear c12
              try clear c12b0
              try clear c12b1
              try clear c14
              try clear c15
              try clear c15b0
              try clear c15b1
              try clear c18
              try clear c18b0
              try clear c18b1
              try clear p19
              try clear q19
              try clear hx19
              try clear c22
              try clear c22b0
              try clear c23
              try clear c23b0
              try clear c24
              try clear c24b0
              try clear c26
              try clear c26b0
              try clear c26b1
              try clear c28
              try clear c28b0
              try clear c29
              try clear c29b0
              try clear hx195_0
              try clear hx196_0
              try clear p195
              try clear p196
              try clear p2
              try clear q195
              try clear q196
              try clear q8
              obtain ⟨kq, x57_24, rfl, HA, HJ24, HO_7, HB⟩ := hcut
              cases kq with
              | zero => exact absurd HA.out (by simp [comfittop_TopBrackets.j2])
              | succ kj24 =>
               have H := HA.out
               clear HA
               simp only [comfittop_TopBrackets.j2] at H
               by_cases c32 : x57_24 = true
               ·subst c32
                have H1 : (if 0 ≤ (wrap64 ((x7_2.length : Int) - 1)) then (if (wrap64 ((x7_2.length : Int) - 1)) ≤ (x7_2.length : Int) then (if x5_2.size + 1 ≤ 9223372036854775807 then (comfittop_TopBrackets.l0 kj24 t190 (x5_2 ++ (⟨#[98]⟩ : ByteArray)) x6_2 (x7_2.take ((wrap64 ((x7_2.length : Int) - 1)) : Int).toNat) l0 (l0.length : Int) (wrap64 (x40_2 + 1))) else (none)) else (none)) else (none)) = some r := by rw [if_pos rfl] at H; exact H
                clear H
                have H := H1
                clear H1
                obtain ⟨ji33, hji33⟩ : ∃ j_ : Int, (wrap64 ((x7_2.length : Int) - 1)) = j_ := ⟨_, rfl⟩
                replace H : (if 0 ≤ (ji33) then (if (ji33) ≤ (x7_2.length : Int) then (if x5_2.size + 1 ≤ 9223372036854775807 then (comfittop_TopBrackets.l0 kj24 t190 (x5_2 ++ (⟨#[98]⟩ : ByteArray)) x6_2 (x7_2.take ((ji33) : Int).toNat) l0 (l0.length : Int) (wrap64 (x40_2 + 1))) else (none)) else (none)) else (none)) = some r := by first | (rw [hji33] at H; exact H) | (simp only [hji33] at H ⊢; exact H)
                have hji33w : (IntKind.i64.wrap ((x7_2.length : Int) - 1)) = ji33 := (i64_w _).trans hji33
                by_cases c34 : 0 ≤ (ji33)
                ·rw [if_pos c34] at H
                 have c34b0 := eq_true c34
                 have c34b1 : decide (0 ≤ (ji33)) = true := decide_eq_true c34
                 clear c34
                 by_cases c35 : (ji33) ≤ (x7_2.length : Int)
                 ·rw [if_pos c35] at H
                  have c35b0 := eq_true c35
                  have c35b1 : decide ((ji33) ≤ (x7_2.length : Int)) = true := decide_eq_true c35
                  clear c35
                  obtain ⟨y197, hy197⟩ : ∃ y_ : List Int, y_ = (x7_2.take ((ji33) : Int).toNat) := ⟨_, rfl⟩
                  replace H : (if x5_2.size + 1 ≤ 9223372036854775807 then (comfittop_TopBrackets.l0 kj24 t190 (x5_2 ++ (⟨#[98]⟩ : ByteArray)) x6_2 y197 l0 (l0.length : Int) (wrap64 (x40_2 + 1))) else (none)) = some r := by first | (rw [hy197]; with_reducible exact H) | (have H2_ := (Option.bind_some _ _).symm.trans H; rw [hy197]; with_reducible exact H2_) | (have H2_ := (Option.bind_some _ _).symm.trans H; with_reducible exact H2_) | with_reducible exact H | (rw [hy197]; exact H) | exact H
                  have Ny197 := Aside0.mk hy197
                  clear hy197
                  by_cases c36 : x5_2.size + 1 ≤ 9223372036854775807
                  ·rw [if_pos c36] at H
                   have c36b0 := eq_true c36
                   have c36b1 : decide (x5_2.size + 1 ≤ 9223372036854775807) = true := decide_eq_true c36
                   try have c36b2 : (9223372036854775807 < x5_2.size + 1) = False := eq_false (Nat.not_lt.2 c36)
                   have H' := Aside0.mk H
                   clear H
                   obtain ⟨Ao37, co37, eo37⟩ := Kd.R_slice HO_7.out
                   subst eo37
                   have q38 : ((ji33) : Int) ≤ ((x7_2.length : Int) : Int) := of_decide_eq_true (by first | (with_reducible assumption) | assumption)
                   obtain ⟨i038, hi038, _, hsz38, _⟩ := info_parts info3
                   have hcut38 := cut_to (P := Tryd.prog) 22 3 .i64 Tryd.underlying22 hi038 Ao37 x7_2.length co37 (ji33) (of_decide_eq_true (by first | (with_reducible assumption) | assumption)) q38 (Kd.R_reads' HO_7.out).2.1
                   have hr38 := Kd.R_take (m := ((ji33) : Int).toNat) HO_7.out (by omega)
                   have hy38 : y197.length = ((ji33) : Int).toNat := (by rw [Ny197.out, List.length_take]; omega)
                   rw [← Ny197.out] at hr38
                   rw [← hy38] at hr38 hcut38
                   clear hy38 hi038 hsz38 HO_7
                   have HO199 := Aside0.mk hr38
                   clear hr38
                   replace q38 := eq_true q38
                   go_wp2
                   go_roundg kj24
                   case measure => have := HJ6.out; have := HK2.out; have := HJ24.out; omega
                   case rel => exact ⟨(x5_2 ++ (⟨#[98]⟩ : ByteArray)), (x6_2), (y197), (wrap64 (x40_2 + 1)), (by first | rfl | (simp; done) | (simp [*]; done)), (by first | rfl | (simp; done) | (simp [*]; done)), (by first | rfl | (simp; done) | (simp [*]; done)), H', ⟨by have := HJ6.out; have := HK2.out; have := HJ24.out; omega⟩, ⟨by (with_reducible repeat (first | apply Kd.R_alloc | apply Kd.R_drewN | apply Kd.R_drew)); exact HO199.out⟩, ⟨by repeat (first | (with_reducible first | exact HB.out | apply below_alloc | apply pw_below_drewN | apply below_drew1) | exact HB.out)⟩⟩
                  ·rw [if_neg c36] at H
                   exact absurd H (by simp)
                 ·rw [if_neg c35] at H
                  exact absurd H (by simp)
                ·rw [if_neg c34] at H
                 exact absurd H (by simp)
               ·replace c32 := Bool.eq_false_iff.mpr c32
                subst c32
                have H1 : ((slices_Contains_int_int.f kj24 x7_2 (Go.bits .xor .i64 (rd l0 x40_2) 1)).bind fun t200 => (if t200 = true then (comfittop_TopBrackets.j3 kj24 t190 x5_2 false) else (if x7_2.length < 17592186044416 then (if x5_2.size + 1 ≤ 9223372036854775807 then (comfittop_TopBrackets.l0 kj24 t190 (x5_2 ++ (⟨#[97]⟩ : ByteArray)) x6_2 (x7_2 ++ [(rd l0 x40_2)]) l0 (l0.length : Int) (wrap64 (x40_2 + 1))) else (none)) else (none)))) = some r := by rw [if_neg (show ¬ (false = true) by decide)] at H; exact H
                clear H
                have H := H1
                clear H1
                replace H := Option.bind_eq_some_iff.mp H
                obtain ⟨t200, A390, H⟩ := H
                replace H : (if t200 = true then (comfittop_TopBrackets.j3 kj24 t190 x5_2 false) else (if x7_2.length < 17592186044416 then (if x5_2.size + 1 ≤ 9223372036854775807 then (comfittop_TopBrackets.l0 kj24 t190 (x5_2 ++ (⟨#[97]⟩ : ByteArray)) x6_2 (x7_2 ++ [(rd l0 x40_2)]) l0 (l0.length : Int) (wrap64 (x40_2 + 1))) else (none)) else (none))) = some r := H
                have A39 := Aside0.mk A390
                clear A390
                by_cases c40 : t200 = true
                ·subst c40
                 have H1 : (comfittop_TopBrackets.j3 kj24 t190 x5_2 false) = some r := by rw [if_pos rfl] at H; exact H
                 clear H
                 have H := H1
                 clear H1
                 have H' := Aside0.mk H
                 clear H
                 obtain ⟨Ao41, co41, eo41⟩ := Kd.R_slice HO_7.out
                 subst eo41
                 go_wp2_with (first | ((with_reducible refine gate_callee (f := 8) rfl ?_); refine goesL_ (some 68) rfl rfl Tryd.func8 (by kernel_rfl) rfl #[.slice Ao41 x7_2.length co41, .int .i64 (Go.bits .xor .i64 (rd l0 x40_2) 1)] rfl al_ ?_; (with_reducible refine (slices_Contains_int_int.calls kj24 _ _ x7_2 (Go.bits .xor .i64 (rd l0 x40_2) 1) true _ ?side1 ?side2 A39.out).mono ?_); (case side1 => exact kc_ (Kd.R_reads' HO_7.out).2.2); (case side2 => exact (Kd.R_reads' HO_7.out).2.1); rintro e w' ⟨rfl, ⟨nd, rfl⟩⟩; refine ⟨_, rfl, ?_⟩))
                 go_meet
                 case rel => exact ⟨_, (x5_2), (false), (by first | rfl | (simp; done) | (simp [*]; done)), (by first | rfl | (simp; done) | (simp [*]; done)), H', ⟨by have := HJ6.out; have := HK2.out; have := HJ24.out; first | omega | exact Nat.le_refl _⟩, ⟨by repeat (first | (with_reducible first | exact HB.out | apply below_alloc | apply pw_below_drewN | apply below_drew1) | exact HB.out)⟩⟩
                ·replace c40 := Bool.eq_false_iff.mpr c40
                 subst c40
                 have H1 : (if x7_2.length < 17592186044416 then (if x5_2.size + 1 ≤ 9223372036854775807 then (comfittop_TopBrackets.l0 kj24 t190 (x5_2 ++ (⟨#[97]⟩ : ByteArray)) x6_2 (x7_2 ++ [(rd l0 x40_2)]) l0 (l0.length : Int) (wrap64 (x40_2 + 1))) else (none)) else (none)) = some r := by rw [if_neg (show ¬ (false = true) by decide)] at H; exact H
                 clear H
                 have H := H1
                 clear H1
                 by_cases c42 : x7_2.length < 17592186044416
                 ·rw [if_pos c42] at H
                  have LMc42 := Aside0.mk c42
                  clear c42
                  obtain ⟨y201, hy201⟩ : ∃ y_ : List Int, y_ = (x7_2 ++ [(rd l0 x40_2)]) := ⟨_, rfl⟩
                  replace H : (if x5_2.size + 1 ≤ 9223372036854775807 then (comfittop_TopBrackets.l0 kj24 t190 (x5_2 ++ (⟨#[97]⟩ : ByteArray)) x6_2 y201 l0 (l0.length : Int) (wrap64 (x40_2 + 1))) else (none)) = some r := by first | (rw [hy201]; with_reducible exact H) | (have H2_ := (Option.bind_some _ _).symm.trans H; rw [hy201]; with_reducible exact H2_) | (have H2_ := (Option.bind_some _ _).symm.trans H; with_reducible exact H2_) | with_reducible exact H | (rw [hy201]; exact H) | exact H
                  have Ny201 := Aside0.mk hy201
                  clear hy201
                  by_cases c43 : x5_2.size + 1 ≤ 9223372036854775807
                  ·rw [if_pos c43] at H
                   have c43b0 := eq_true c43
                   have c43b1 : decide (x5_2.size + 1 ≤ 9223372036854775807) = true := decide_eq_true c43
                   try have c43b2 : (9223372036854775807 < x5_2.size + 1) = False := eq_false (Nat.not_lt.2 c43)
                   have H' := Aside0.mk H
                   clear H
                   obtain ⟨Ao44, co44, eo44⟩ := Kd.R_slice HO_7.out
                   subst eo44
                   go_wp2_with (first | ((with_reducible refine gate_callee (f := 8) rfl ?_); refine goesL_ (some 68) rfl rfl Tryd.func8 (by kernel_rfl) rfl #[.slice Ao44 x7_2.length co44, .int .i64 (Go.bits .xor .i64 (rd l0 x40_2) 1)] rfl al_ ?_; (with_reducible refine (slices_Contains_int_int.calls kj24 _ _ x7_2 (Go.bits .xor .i64 (rd l0 x40_2) 1) false _ ?side1 ?side2 A39.out).mono ?_); (case side1 => exact kc_ (Kd.R_reads' HO_7.out).2.2); (case side2 => exact (Kd.R_reads' HO_7.out).2.1); rintro e w' ⟨rfl, ⟨nd, rfl⟩⟩; refine ⟨_, rfl, ?_⟩) | ((with_reducible refine gate_builtin (b := .append) (xs := #[.tmp 69, .tmp 71]) rfl ?_); (try (refine gate_guard (by rfl) ?_; dsimp only)); at_builtin; refine Kd.R_append (Kd.int .i64) (w0 := w) w.heap.size rfl (.tmp 69) (.tmp 71) 22 3 (.int .i64 0) 8 rfl Tryd.underlying22 info3 rfl (by decide) (by omega) (.slice Ao44 x7_2.length co44) x7_2 (rd l0 x40_2) [.int .i64 (rd l0 x40_2)] (fun _ => True) (fun _ => False) rfl rfl ?aP (fun _ hk => hk.elim) ?aF ?aO ?aB ?aS ?aL ?_; (case aP => exact rfl); (case aB => exact (hb_ HB.out)); (case aF => exact (fun _ _ => trivial)); (case aO => exact (kr_ (HO_7.out))); (case aS => exact (below_size (hb_ HB.out))); (case aL => have := LMc42.out; omega); intro v202 w45 ho hb hg hat; rw [← Ny201.out] at ho; have n0_ := Aside0.mk (hb); have n1_ := Aside0.mk (ho); clear HB; clear HO_7; have HB := n0_; have HO203 := n1_; clear n0_ n1_; clear ho hb hg hat))
                   go_roundg kj24
                   case measure => have := HJ6.out; have := HK2.out; have := HJ24.out; omega
                   case rel => exact ⟨(x5_2 ++ (⟨#[97]⟩ : ByteArray)), (x6_2), (y201), (wrap64 (x40_2 + 1)), (by first | rfl | (simp; done) | (simp [*]; done)), (by first | rfl | (simp; done) | (simp [*]; done)), (by first | rfl | (simp; done) | (simp [*]; done)), H', ⟨by have := HJ6.out; have := HK2.out; have := HJ24.out; omega⟩, ⟨by (with_reducible repeat (first | apply Kd.R_alloc | apply Kd.R_drewN | apply Kd.R_drew)); exact HO203.out⟩, ⟨by repeat (first | (with_reducible first | exact HB.out | apply below_alloc | apply pw_below_drewN | apply below_drew1) | exact HB.out)⟩⟩
                  ·rw [if_neg c43] at H
                   exact absurd H (by simp)
                 ·rw [if_neg c42] at H
                  exact absurd H (by simp)
            ·rw [if_neg c24] at H
             exact absurd H (by simp)
           ·rw [if_neg c23] at H
            exact absurd H (by simp)
          ·rw [if_neg c22] at H
           have c22b0 : decide (x40_2 < (l0.length : Int)) = false := decide_eq_false c22
           clear c22
           (first | rw [c22b0] | (simp only [i64_w, i32_w]; rw [c22b0]) | skip)
           have H' := Aside0.mk H
           clear H
           go_wp2
           go_meet
           case rel => exact ⟨_, (x5_2), (x6_2), (by first | rfl | (simp; done) | (simp [*]; done)), (by first | rfl | (simp; done) | (simp [*]; done)), H', ⟨by have := HJ6.out; have := HK2.out; first | omega | exact Nat.le_refl _⟩, ⟨by repeat (first | (with_reducible first | exact HB.out | apply below_alloc | apply pw_below_drewN | apply below_drew1) | exact HB.out)⟩⟩
       case rest =>
        clear HC21
        try clear c1
        try clear p1
        try clear q1
        try clear hx1
        try clear c2
        try clear p2
        try clear c3
        try clear c3b0
        try clear c3b1
        try clear q3
        try clear c4
        try clear c4b0
        try clear c4b1
        try clear c5
        try clear p6
        try clear c7
        try clear c8
        try clear q8
        try clear c12
        try clear c12b0
        try clear c12b1
        try clear c14
        try clear c15
        try clear c15b0
        try clear c15b1
        try clear c18
        try clear c18b0
        try clear c18b1
        try clear p19
        try clear q19
        try clear hx19
        try clear c22
        try clear c22b0
        try clear c23
        try clear c23b0
        try clear c24
        try clear c24b0
        try clear c26
        try clear c26b0
        try clear c26b1
        try clear c28
        try clear c28b0
        try clear c29
        try clear c29b0
        try clear c32
        try clear c34
        try clear c34b0
        try clear c34b1
        try clear c35
        try clear c35b0
        try clear c35b1
        try clear c36
        try clear c36b0
        try clear c36b1
        try clear c36b2
        try clear q38
        try clear c40
        try clear c42
        try clear c43
        try clear c43b0
        try clear c43b1
        try clear c43b2
        try clear hx195_0
        try clear hx196_0
        try clear p1
        try clear p19
        try clear p195
        try clear p196
        try clear p2
        try clear p6
        try clear q1
        try clear q19
        try clear q195
        try clear q196
        try clear q38
        try clear q8
        obtain ⟨kq, x5_20, x6_20, rfl, rfl, HA, HJ20, HB⟩ := hcut
        cases kq with
        | zero => exact absurd HA.out (by simp [comfittop_TopBrackets.j3])
        | succ kj20 =>
         have H := HA.out
         clear HA
         simp only [comfittop_TopBrackets.j3] at H
         by_cases c46 : x6_20 = true
         ·subst c46
          have H1 : ((tables_Trees.f kj20 (([(⟨65, (⟨#[97, 65, 98, 65]⟩ : ByteArray)⟩ : S32), (⟨65, (⟨#[]⟩ : ByteArray)⟩ : S32)] : List (S32))) x5_20).bind fun bt208 => (if bt208.2 = 0 then (if bt208.1 = 1 then ((comfittop_reads.f kj20).bind fun t210 => (some t210)) else (none)) else (none))) = some r := by rw [if_pos rfl] at H; exact H
          clear H
          have H := H1
          clear H1
          obtain ⟨y205, hy205⟩ : ∃ y_ : List (S32), y_ = (([(⟨65, (⟨#[97, 65, 98, 65]⟩ : ByteArray)⟩ : S32), (⟨65, (⟨#[]⟩ : ByteArray)⟩ : S32)] : List (S32))) := ⟨_, rfl⟩
          replace H : ((tables_Trees.f kj20 y205 x5_20).bind fun bt208 => (if bt208.2 = 0 then (if bt208.1 = 1 then ((comfittop_reads.f kj20).bind fun t210 => (some t210)) else (none)) else (none))) = some r := by first | (rw [hy205]; with_reducible exact H) | (have H2_ := (Option.bind_some _ _).symm.trans H; rw [hy205]; with_reducible exact H2_) | (have H2_ := (Option.bind_some _ _).symm.trans H; with_reducible exact H2_) | with_reducible exact H | (rw [hy205]; exact H) | exact H
          have Ny205 := Aside0.mk hy205
          clear hy205
          replace H := Option.bind_eq_some_iff.mp H
          obtain ⟨⟨t208, t209⟩, A470, H⟩ := H
          replace H : (if t209 = 0 then (if t208 = 1 then ((comfittop_reads.f kj20).bind fun t210 => (some t210)) else (none)) else (none)) = some r := H
          have A47 := Aside0.mk A470
          clear A470
          by_cases c48 : t209 = 0
          ·rw [if_pos c48] at H
           have c48b0 : (t209 == 0) = true := beq_iff_eq.mpr c48
           have c48b1 : (t209 != 0) = false := bne_eq_false_iff_eq.mpr c48
           clear c48
           by_cases c49 : t208 = 1
           ·rw [if_pos c49] at H
            have c49b0 : (t208 == 1) = true := beq_iff_eq.mpr c49
            have c49b1 : (t208 != 1) = false := bne_eq_false_iff_eq.mpr c49
            clear c49
            replace H := Option.bind_eq_some_iff.mp H
            obtain ⟨t210, A500, H⟩ := H
            replace H : (some t210) = some r := H
            have A50 := Aside0.mk A500
            clear A500
            obtain rfl := Option.some.inj H
            go_wp2_with (first | ((with_reducible refine gate_dst (N := 86) rfl ?_); (try (refine gate_guard (by rfl) ?_; dsimp only)); refine Kd.R_lit k32 _ 32 ?hg (N := 86) ?hd (xs := ([(⟨65, (⟨#[97, 65, 98, 65]⟩ : ByteArray)⟩ : S32), (⟨65, (⟨#[]⟩ : ByteArray)⟩ : S32)] : List (S32))) (inner := [.int .u8 65, .string (⟨#[97, 65, 98, 65]⟩ : ByteArray), .int .u8 65, .string (⟨#[]⟩ : ByteArray)]) (ok := fun _ => True) (okp := fun _ => True) ?hr ?hp (fun _ hk => hk) trivial (Below.refl _ _) (Nat.le_refl _) (by simp) ?_; (case hd => rfl); (case hg => rfl); (case hr => first | (go_simp; done) | (go_simp; rfl)); (case hp => exact (Reps.c2 (show Kd.M k32 _ _ _ (⟨65, (⟨#[97, 65, 98, 65]⟩ : ByteArray)⟩ : S32) [.int .u8 65, .string (⟨#[97, 65, 98, 65]⟩ : ByteArray)] from (k32_mkM _ _ _ (⟨65, (⟨#[97, 65, 98, 65]⟩ : ByteArray)⟩ : S32) )) (Reps.c2 (show Kd.M k32 _ _ _ (⟨65, (⟨#[]⟩ : ByteArray)⟩ : S32) [.int .u8 65, .string (⟨#[]⟩ : ByteArray)] from (k32_mkM _ _ _ (⟨65, (⟨#[]⟩ : ByteArray)⟩ : S32) )) (Reps.none _ _)))); intro v206 w51 ho52 hb hg_ hnew_; clear hg_ hnew_; (first | rw [← Ny205.out] at ho52 | (simp only [Int.reduceToNat] at ho52; rw [← Ny205.out] at ho52)); have n0_ := Aside0.mk (Kd.R_lower ho52 (below_size (hb_ HB.out))); have n1_ := Aside0.mk (below_step (hb_ HB.out) hb); clear HB; have HO207 := n0_; have HB := n1_; clear n0_ n1_; clear hb ho52; obtain ⟨Ao53, co53, eo53⟩ := Kd.R_slice HO207.out; subst eo53) | ((with_reducible refine gate_callee (f := 9) rfl ?_); refine goesL_ (some 88) rfl rfl Tryd.func9 (by kernel_rfl) rfl #[.slice Ao53 y205.length co53, .string x5_20] rfl al_ ?_; (with_reducible refine (tables_Trees.calls kj20 _ _ y205 x5_20 t208 t209 _ ?side1 ?side2 A47.out).mono ?_); (case side1 => exact kc_ (Kd.R_reads' HO207.out).2.2); (case side2 => exact (Kd.R_reads' HO207.out).2.1); rintro e w54 ⟨rfl, hb⟩; refine ⟨_, rfl, ?_⟩; have n0_ := Aside0.mk (Kd.R_below (kr_ (HO207.out)) hb); have n1_ := Aside0.mk (below_step (hb_ HB.out) hb); clear HO207; clear HB; have HO207 := n0_; have HB := n1_; clear n0_ n1_; (try clear hb); (try clear hb2); (try clear hk); (try clear hi)) | (go_at_call 7; (with_reducible refine (comfittop_reads.calls kj20  t210 _ A50.out).mono ?_); rintro e w55 ⟨rfl, hb⟩; have n0_ := Aside0.mk (Kd.R_below (kr_ (HO207.out)) hb); have n1_ := Aside0.mk (below_step (hb_ HB.out) hb); clear HO207; clear HB; have HO207 := n0_; have HB := n1_; clear n0_ n1_; (try clear hb); (try clear hb2); (try clear hk); (try clear hi)))
            go_ret
            exact ⟨by first | rfl | (simp [errW_none, errW_some] <;> rfl) | (simp only [← hji2]; first | rfl | (simp [errW_none, errW_some] <;> rfl)) | (simp [*, errW_none, errW_some] <;> rfl), by repeat (first | (with_reducible first | exact HB.out | apply below_alloc | apply pw_below_drewN | apply below_drew1) | exact HB.out)⟩
           ·rw [if_neg c49] at H
            exact absurd H (by simp)
          ·rw [if_neg c48] at H
           exact absurd H (by simp)
         ·replace c46 := Bool.eq_false_iff.mpr c46
          subst c46
          have H1 : (if t190 = true then (none) else ((comfittop_reads.f kj20).bind fun t204 => (some t204))) = some r := by rw [if_neg (show ¬ (false = true) by decide)] at H; exact H
          clear H
          have H := H1
          clear H1
          by_cases c56 : t190 = true
          ·subst c56
           have H1 : (none) = some r := by rw [if_pos rfl] at H; exact H
           clear H
           have H := H1
           clear H1
           exact absurd H (by simp)
          ·replace c56 := Bool.eq_false_iff.mpr c56
           subst c56
           have H1 : ((comfittop_reads.f kj20).bind fun t204 => (some t204)) = some r := by rw [if_neg (show ¬ (false = true) by decide)] at H; exact H
           clear H
           have H := H1
           clear H1
           replace H := Option.bind_eq_some_iff.mp H
           obtain ⟨t204, A570, H⟩ := H
           replace H : (some t204) = some r := H
           have A57 := Aside0.mk A570
           clear A570
           obtain rfl := Option.some.inj H
           go_wp2_with (first | (go_at_call 7; (with_reducible refine (comfittop_reads.calls kj20  t204 _ A57.out).mono ?_); rintro e w58 ⟨rfl, hb⟩; have n0_ := Aside0.mk (below_step (hb_ HB.out) hb); clear HB; have HB := n0_; clear n0_; (try clear hb); (try clear hb2); (try clear hk); (try clear hi)))
           go_ret
           exact ⟨by first | rfl | (simp [errW_none, errW_some] <;> rfl) | (simp only [← hji2]; first | rfl | (simp [errW_none, errW_some] <;> rfl)) | (simp [*, errW_none, errW_some] <;> rfl), by repeat (first | (with_reducible first | exact HB.out | apply below_alloc | apply pw_below_drewN | apply below_drew1) | exact HB.out)⟩
  ·rw [if_neg c4] at H
   exact absurd H (by simp)
 ·rw [if_neg c3] at H
  exact absurd H (by simp)

/-- THE ONE PURE STATEMENT of comfittop_TopBrackets: yours. -/
def comfittop_TopBrackets.Pure : Prop := ∀ (l0 : List Int), l0.length ≤ maxLen → l0.length * 8 ≤ 140737488351232 → (∀ x ∈ l0, (Lit.int .i64 x).wf = true) → ∃ k, comfittop_TopBrackets.f k l0 = some true
theorem comfittop_TopBrackets.walk (P : comfittop_TopBrackets.Pure) (a0 : Option Addr) (len0 cap0 : Nat) (z0 : List Int) (w : World) (w0 : (a0 = none ∧ len0 = 0 ∧ cap0 = 0 ∧ z0 = []) ∨ ∃ x, a0 = some x ∧ len0 ≤ cap0 ∧ cap0 ≤ maxLen ∧ z0.length = cap0 ∧ (∀ i, i < z0.length → w.cell? (x.add i) = some (.int .i64 (z0.getD i 0))) ∧ ∀ n ∈ z0, (Lit.int .i64 n).wf = true) (y0 : len0 * 8 ≤ 140737488351232) :
  Calls Tryd.prog 3 #[.slice a0 len0 cap0] w fun e w' => e = .returned (.bool true) ∧ Below w.heap.size w w' := by
 obtain ⟨l0, rfl, hr0, hm0, hw0, hc0⟩ := ReadsInt.ofRowC w0
 obtain ⟨k, h⟩ := P l0 hm0 y0 hw0
 refine (comfittop_TopBrackets.calls k _ _ l0 true w (Kd.C_of_reads (d := (0 : Int)) (h1 := fun _ => rfl) hr0) hc0 h).mono ?_
 rintro e w' ⟨rfl, hd⟩
 exact ⟨rfl, hd⟩

end Go.Proofs.YtmlbdkkdejecmaaDoor.X
