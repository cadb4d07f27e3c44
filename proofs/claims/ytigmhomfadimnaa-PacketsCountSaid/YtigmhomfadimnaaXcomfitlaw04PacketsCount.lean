/- Written by a program of this session (wip/tools/xprint.py, which calls the kit's print): Go functions as Lean functions, and for each the proof that the machine's call does what it says; no conditions but those that each theorem names. -/
import Derived.Test.YtigmhomfadimnaaX0
import Derived.Test.YtigmhomfadimnaaXEq
import Derived.Test.YtigmhomfadimnaaXL
import Derived.Test.YtigmhomfadimnaaXLA
import Derived.Test.YtigmhomfadimnaaXS
import Derived.Test.YtigmhomfadimnaaXcomfitlaw04awake
import Derived.Test.YtigmhomfadimnaaXcomfitlaw04list
import Derived.Test.YtigmhomfadimnaaXpacketsDone
import Derived.Test.YtigmhomfadimnaaXpacketsKinds
namespace Go.Proofs.Ytigmhomfadimnaa.X
open Go.RowKit Go.Proofs.YtigmhomfadimnaaW.PrintWords Go.Proofs.YtigmhomfadimnaaW.PrintLast Go.Proofs.YtigmhomfadimnaaW.PrintMore
attribute [local go_sem] max2_int min2_int max_two min_two max_three min_three max_four min_four   -- for this text's walks alone
set_option linter.unusedVariables false
set_option linter.unusedSimpArgs false

attribute [local go_sem high] eqA25
/-! ### comfitlaw04_PacketsCount: function 12 -/
mutual
def comfitlaw04_PacketsCount.j0 : Nat → List Int → Int → Int → Bool → Int → Int → Option (Bool)
  | 0, _, _, _, _, _, _ => none
  | k + 1, x0, x1, x6, x33, x527000, x527001 => if x33 = true then (if x6 = 2 then ((comfitlaw04_awake.f k).bind fun t528 => (some t528)) else (some false)) else (comfitlaw04_PacketsCount.l0 k x0 x1 (x0.length : Int) 0 x527000 x527001 0 1)
def comfitlaw04_PacketsCount.l0 : Nat → List Int → Int → Int → Int → Int → Int → Int → Int → Option (Bool)
  | 0, _, _, _, _, _, _, _, _ => none
  | k + 1, x0, x1, x41, x42, x527000, x527001, x530000, x530001 => if x42 < x41 then ((comfitlaw04_list.f x0).bind fun t530 => (if 0 ≤ x42 then ((packets_Done.f k t530 (shl .i64 1 x42) x1).bind fun bt533 => (if bt533.2.2 = 0 then ((comfitlaw04_right.f bt533.1 bt533.2.1 1).bind fun t537 => (comfitlaw04_PacketsCount.j2 k x0 x1 x41 x42 (!t537) x527000 x527001 x530000 x530001 bt533.1 bt533.2.1)) else (comfitlaw04_PacketsCount.j2 k x0 x1 x41 x42 true x527000 x527001 x530000 x530001 bt533.1 bt533.2.1))) else (none))) else (if (x527000 == x530000 && (x527001 == x530001)) = true then ((comfitlaw04_right.f x527000 x527001 (mn (x0.length : Int) x1)).bind fun t541 => (if t541 = true then ((comfitlaw04_awake.f k).bind fun t542 => (some t542)) else (some false))) else (some false))
def comfitlaw04_PacketsCount.j2 : Nat → List Int → Int → Int → Int → Bool → Int → Int → Int → Int → Int → Int → Option (Bool)
  | 0, _, _, _, _, _, _, _, _, _, _, _ => none
  | k + 1, x0, x1, x41, x42, x60, x527000, x527001, x530000, x530001, x537000, x537001 => if x60 = true then (some false) else ((comfitlaw04_added.f k x530000 x530001 x537000 x537001 false).bind fun bt538 => (if bt538.2.2 = true then (comfitlaw04_PacketsCount.l0 k x0 x1 x41 (wrap64 (x42 + 1)) x527000 x527001 bt538.1 bt538.2.1) else (some false)))
end
def comfitlaw04_PacketsCount.f (k : Nat) (l0 : List Int) (a1 : Int) : Option (Bool) := (comfitlaw04_list.f l0).bind fun t520 => ((packets_Kinds.f k t520 a1).bind fun bt523 => (if bt523.2.2 = 0 then ((comfitref04_Weights.f k l0).bind fun t527 => (if t527 = true then (if a1 < 0 then (comfitlaw04_PacketsCount.j0 k l0 a1 bt523.2.2 true bt523.1 bt523.2.1) else (comfitlaw04_PacketsCount.j0 k l0 a1 bt523.2.2 (decide (a1 > 8)) bt523.1 bt523.2.1)) else (comfitlaw04_PacketsCount.j0 k l0 a1 bt523.2.2 true bt523.1 bt523.2.1))) else (comfitlaw04_PacketsCount.j0 k l0 a1 bt523.2.2 true bt523.1 bt523.2.1)))
theorem comfitlaw04_PacketsCount.mono_l : ∀ k, (∀ y0 y1 y2 y3 y4 y5, LeO (comfitlaw04_PacketsCount.j0 k y0 y1 y2 y3 y4 y5) (comfitlaw04_PacketsCount.j0 (k + 1) y0 y1 y2 y3 y4 y5)) ∧ (∀ y0 y1 y2 y3 y4 y5 y6 y7, LeO (comfitlaw04_PacketsCount.l0 k y0 y1 y2 y3 y4 y5 y6 y7) (comfitlaw04_PacketsCount.l0 (k + 1) y0 y1 y2 y3 y4 y5 y6 y7)) ∧ (∀ y0 y1 y2 y3 y4 y5 y6 y7 y8 y9 y10, LeO (comfitlaw04_PacketsCount.j2 k y0 y1 y2 y3 y4 y5 y6 y7 y8 y9 y10) (comfitlaw04_PacketsCount.j2 (k + 1) y0 y1 y2 y3 y4 y5 y6 y7 y8 y9 y10))
  | 0 => ⟨fun _ _ _ _ _ _ r h => by simp [comfitlaw04_PacketsCount.j0] at h, fun _ _ _ _ _ _ _ _ r h => by simp [comfitlaw04_PacketsCount.l0] at h, fun _ _ _ _ _ _ _ _ _ _ _ r h => by simp [comfitlaw04_PacketsCount.j2] at h⟩
  | k + 1 => by
    obtain ⟨ih0, ih1, ih2⟩ := comfitlaw04_PacketsCount.mono_l k
    refine ⟨?_, ?_, ?_⟩
    · intro y0 y1 y2 y3 y4 y5
      unfold comfitlaw04_PacketsCount.j0
      repeat' first
      | (with_reducible exact ih0 _ _ _ _ _ _)
      | (with_reducible exact ih1 _ _ _ _ _ _ _ _)
      | (with_reducible exact ih2 _ _ _ _ _ _ _ _ _ _ _)
      | (with_reducible exact comfitlaw04_added.mono _ _ _ _ _ _)
      | (with_reducible exact comfitlaw04_awake.mono _)
      | (with_reducible exact comfitref04_Weights.mono _ _)
      | (with_reducible exact packets_Done.mono _ _ _ _)
      | (with_reducible exact packets_Kinds.mono _ _ _)
      | (with_reducible exact LeO.refl _)
      | (with_reducible exact LeO.none _)
      | (with_reducible refine LeO.ite ?_ ?_)
      | (with_reducible refine LeO.bind ?_ (fun _ => ?_))
      | exact ih0 _ _ _ _ _ _
      | exact ih1 _ _ _ _ _ _ _ _
      | exact ih2 _ _ _ _ _ _ _ _ _ _ _
      | exact comfitlaw04_added.mono _ _ _ _ _ _
      | exact comfitlaw04_awake.mono _
      | exact comfitref04_Weights.mono _ _
      | exact packets_Done.mono _ _ _ _
      | exact packets_Kinds.mono _ _ _
      | exact LeO.none _
      | refine LeO.ite ?_ ?_
      | refine LeO.bind ?_ (fun _ => ?_)
    · intro y0 y1 y2 y3 y4 y5 y6 y7
      unfold comfitlaw04_PacketsCount.l0
      repeat' first
      | (with_reducible exact ih0 _ _ _ _ _ _)
      | (with_reducible exact ih1 _ _ _ _ _ _ _ _)
      | (with_reducible exact ih2 _ _ _ _ _ _ _ _ _ _ _)
      | (with_reducible exact comfitlaw04_added.mono _ _ _ _ _ _)
      | (with_reducible exact comfitlaw04_awake.mono _)
      | (with_reducible exact comfitref04_Weights.mono _ _)
      | (with_reducible exact packets_Done.mono _ _ _ _)
      | (with_reducible exact packets_Kinds.mono _ _ _)
      | (with_reducible exact LeO.refl _)
      | (with_reducible exact LeO.none _)
      | (with_reducible refine LeO.ite ?_ ?_)
      | (with_reducible refine LeO.bind ?_ (fun _ => ?_))
      | exact ih0 _ _ _ _ _ _
      | exact ih1 _ _ _ _ _ _ _ _
      | exact ih2 _ _ _ _ _ _ _ _ _ _ _
      | exact comfitlaw04_added.mono _ _ _ _ _ _
      | exact comfitlaw04_awake.mono _
      | exact comfitref04_Weights.mono _ _
      | exact packets_Done.mono _ _ _ _
      | exact packets_Kinds.mono _ _ _
      | exact LeO.none _
      | refine LeO.ite ?_ ?_
      | refine LeO.bind ?_ (fun _ => ?_)
    · intro y0 y1 y2 y3 y4 y5 y6 y7 y8 y9 y10
      unfold comfitlaw04_PacketsCount.j2
      repeat' first
      | (with_reducible exact ih0 _ _ _ _ _ _)
      | (with_reducible exact ih1 _ _ _ _ _ _ _ _)
      | (with_reducible exact ih2 _ _ _ _ _ _ _ _ _ _ _)
      | (with_reducible exact comfitlaw04_added.mono _ _ _ _ _ _)
      | (with_reducible exact comfitlaw04_awake.mono _)
      | (with_reducible exact comfitref04_Weights.mono _ _)
      | (with_reducible exact packets_Done.mono _ _ _ _)
      | (with_reducible exact packets_Kinds.mono _ _ _)
      | (with_reducible exact LeO.refl _)
      | (with_reducible exact LeO.none _)
      | (with_reducible refine LeO.ite ?_ ?_)
      | (with_reducible refine LeO.bind ?_ (fun _ => ?_))
      | exact ih0 _ _ _ _ _ _
      | exact ih1 _ _ _ _ _ _ _ _
      | exact ih2 _ _ _ _ _ _ _ _ _ _ _
      | exact comfitlaw04_added.mono _ _ _ _ _ _
      | exact comfitlaw04_awake.mono _
      | exact comfitref04_Weights.mono _ _
      | exact packets_Done.mono _ _ _ _
      | exact packets_Kinds.mono _ _ _
      | exact LeO.none _
      | refine LeO.ite ?_ ?_
      | refine LeO.bind ?_ (fun _ => ?_)
theorem comfitlaw04_PacketsCount.mono : ∀ a0 a1 k, LeO (comfitlaw04_PacketsCount.f k a0 a1) (comfitlaw04_PacketsCount.f (k + 1) a0 a1) := by
  intro a0 a1 k
  obtain ⟨ih0, ih1, ih2⟩ := comfitlaw04_PacketsCount.mono_l k
  unfold comfitlaw04_PacketsCount.f
  repeat' first
      | (with_reducible exact ih0 _ _ _ _ _ _)
      | (with_reducible exact ih1 _ _ _ _ _ _ _ _)
      | (with_reducible exact ih2 _ _ _ _ _ _ _ _ _ _ _)
      | (with_reducible exact comfitlaw04_added.mono _ _ _ _ _ _)
      | (with_reducible exact comfitlaw04_awake.mono _)
      | (with_reducible exact comfitref04_Weights.mono _ _)
      | (with_reducible exact packets_Done.mono _ _ _ _)
      | (with_reducible exact packets_Kinds.mono _ _ _)
      | (with_reducible exact LeO.refl _)
      | (with_reducible exact LeO.none _)
      | (with_reducible refine LeO.ite ?_ ?_)
      | (with_reducible refine LeO.bind ?_ (fun _ => ?_))
      | exact ih0 _ _ _ _ _ _
      | exact ih1 _ _ _ _ _ _ _ _
      | exact ih2 _ _ _ _ _ _ _ _ _ _ _
      | exact comfitlaw04_added.mono _ _ _ _ _ _
      | exact comfitlaw04_awake.mono _
      | exact comfitref04_Weights.mono _ _
      | exact packets_Done.mono _ _ _ _
      | exact packets_Kinds.mono _ _ _
      | exact LeO.none _
      | refine LeO.ite ?_ ?_
      | refine LeO.bind ?_ (fun _ => ?_)
def comfitlaw04_PacketsCount.T8 : Bool × List (List Nat × List Nat) := (true, [([], []), ([0], [0]), ([], []), ([2], [2]), ([], []), ([1, 3, 4, 1], [1, 3, 4]), ([5], [5]), ([6], [6]), ([6], [6]), ([], []), ([9, 7, 5, 0, 1, 2, 3, 4, 5, 6, 7, 9], [7, 9]), ([8, 10, 0, 1, 2, 3, 4, 5, 6, 7, 8, 9, 10], [8])])
def comfitlaw04_PacketsCount.B8 : List Nat := [0, 1, 0, 4, 0, 31, 63, 127, 127, 0, 767, 2047]
theorem comfitlaw04_PacketsCount.tab8 : rtab .any (opsOf Try.f12 8) = comfitlaw04_PacketsCount.T8 := by kernel_rfl
theorem comfitlaw04_PacketsCount.bits8 : waitsOk comfitlaw04_PacketsCount.T8.2 comfitlaw04_PacketsCount.B8 = true := by kernel_rfl
set_option maxHeartbeats 8000000 in
set_option maxRecDepth 100000 in
theorem comfitlaw04_PacketsCount.calls (k : Nat) (A0 : Option Addr) (c0 : Nat) (l0 : List Int) (a1 : Int) (r : Bool) (w : World) (hr0 : Kd.C (Kd.int .i64) w A0 l0.length l0) (hc0 : l0.length ≤ c0) (h : comfitlaw04_PacketsCount.f k l0 a1 = some r) :
    Calls Try.prog 12 #[.slice A0 l0.length c0, .int .i64 a1] w fun e w' => e = .returned (.bool r) ∧ Below w.heap.size w w' := by
  have hu25 := Try.underlying25
  have HR0 := Aside0.mk hr0
  have HC0 := Aside0.mk hc0
  clear hr0 hc0
  have HB := Aside0.mk (Below.refl w.heap.size w)
  have H : ((comfitlaw04_list.f l0).bind fun t520 => ((packets_Kinds.f k t520 a1).bind fun bt523 => (if bt523.2.2 = 0 then ((comfitref04_Weights.f k l0).bind fun t527 => (if t527 = true then (if a1 < 0 then (comfitlaw04_PacketsCount.j0 k l0 a1 bt523.2.2 true bt523.1 bt523.2.1) else (comfitlaw04_PacketsCount.j0 k l0 a1 bt523.2.2 (decide (a1 > 8)) bt523.1 bt523.2.1)) else (comfitlaw04_PacketsCount.j0 k l0 a1 bt523.2.2 true bt523.1 bt523.2.1))) else (comfitlaw04_PacketsCount.j0 k l0 a1 bt523.2.2 true bt523.1 bt523.2.1)))) = some r := h
  clear h
  replace H := Option.bind_eq_some_iff.mp H
  obtain ⟨t520, A30, H⟩ := H
  replace H : ((packets_Kinds.f k t520 a1).bind fun bt523 => (if bt523.2.2 = 0 then ((comfitref04_Weights.f k l0).bind fun t527 => (if t527 = true then (if a1 < 0 then (comfitlaw04_PacketsCount.j0 k l0 a1 bt523.2.2 true bt523.1 bt523.2.1) else (comfitlaw04_PacketsCount.j0 k l0 a1 bt523.2.2 (decide (a1 > 8)) bt523.1 bt523.2.1)) else (comfitlaw04_PacketsCount.j0 k l0 a1 bt523.2.2 true bt523.1 bt523.2.1))) else (comfitlaw04_PacketsCount.j0 k l0 a1 bt523.2.2 true bt523.1 bt523.2.1))) = some r := H
  have A3 := Aside0.mk A30
  clear A30
  replace H := Option.bind_eq_some_iff.mp H
  obtain ⟨⟨t523, t524, t525⟩, A40, H⟩ := H
  replace H : (if t525 = 0 then ((comfitref04_Weights.f k l0).bind fun t527 => (if t527 = true then (if a1 < 0 then (comfitlaw04_PacketsCount.j0 k l0 a1 t525 true t523 t524) else (comfitlaw04_PacketsCount.j0 k l0 a1 t525 (decide (a1 > 8)) t523 t524)) else (comfitlaw04_PacketsCount.j0 k l0 a1 t525 true t523 t524))) else (comfitlaw04_PacketsCount.j0 k l0 a1 t525 true t523 t524)) = some r := H
  have A4 := Aside0.mk A40
  clear A40
  have HC5 := Aside0.mk H
  clear H
  go_enter Try.func12, Try.ntmps12
  go_upto_region 2 with (first | ((with_reducible refine gate_callee (f := 22) rfl ?_); refine goesL_ (some 14) rfl rfl Try.func22 (by kernel_rfl) rfl #[.slice A0 l0.length c0] rfl (by (try simp only [List.map_toArray, List.map_cons, List.map_nil]); first | done | rfl | (simp only [List.length_drop, List.length_take]; rfl)) ?_; (with_reducible refine (comfitlaw04_list.calls _ _ l0 t520 _ ?side1 ?side2 A3.out).mono ?_); (case side1 => repeat (first | exact HR0.out | (with_reducible refine Kd.C_alloc ?_ _) | (with_reducible refine Kd.C_drewN ?_ _) | (with_reducible refine Kd.C_drew ?_))); (case side2 => exact HC0.out); rintro e w6 ⟨v521, rfl, ho0, hb⟩; refine ⟨_, rfl, ?_⟩; have n0_ := Aside0.mk (Kd.R_lower ho0 (below_size (by repeat (first | (with_reducible first | exact HB.out | apply below_alloc | apply pw_below_drewN | apply below_drew1) | exact HB.out)))); have n1_ := Aside0.mk (below_step (by repeat (first | (with_reducible first | exact HB.out | apply below_alloc | apply pw_below_drewN | apply below_drew1) | exact HB.out)) hb); clear HB; have HO522 := n0_; have HB := n1_; clear n0_ n1_; (try clear hb); (try clear hb2); (try clear hk); (try clear hi); (try clear ho0); obtain ⟨Ao7, co7, eo7⟩ := Kd.R_slice HO522.out; subst eo7) | ((with_reducible refine gate_callee (f := 32) rfl ?_); refine goesL_ (some 16) rfl rfl Try.func32 (by kernel_rfl) rfl #[.slice Ao7 t520.length co7, .int .i64 a1] rfl (by (try simp only [List.map_toArray, List.map_cons, List.map_nil]); first | done | rfl | (simp only [List.length_drop, List.length_take]; rfl)) ?_; (with_reducible refine (packets_Kinds.calls k _ _ t520 a1 t523 t524 t525 _ ?side1 ?side2 A4.out).mono ?_); (case side1 => repeat (first | exact (Kd.R_reads' HO522.out).2.2 | (with_reducible refine Kd.C_alloc ?_ _) | (with_reducible refine Kd.C_drewN ?_ _) | (with_reducible refine Kd.C_drew ?_))); (case side2 => exact (Kd.R_reads' HO522.out).2.1); rintro e w8 ⟨rfl, hb⟩; refine ⟨_, rfl, ?_⟩; have n0_ := Aside0.mk (Kd.R_below (by (with_reducible repeat (first | apply Kd.R_alloc | apply Kd.R_drewN | apply Kd.R_drew)); exact HO522.out) hb); have n1_ := Aside0.mk (below_step (by repeat (first | (with_reducible first | exact HB.out | apply below_alloc | apply pw_below_drewN | apply below_drew1) | exact HB.out)) hb); clear HO522; clear HB; have HO522 := n0_; have HB := n1_; clear n0_ n1_; (try clear hb); (try clear hb2); (try clear hk); (try clear hi)) | ((with_reducible refine gate_dst (N := 5) rfl ?_); (try (refine gate_guard (by rfl) ?_; dsimp only)); refine box_event ?hg (N := 5) ?hd (cs := #[.int .i64 0, .int .i64 0]) (t := 25) ?hr ?_; (case hd => rfl); (case hg => rfl); (case hr => first | (go_simp; done) | (go_simp; rfl)); intro gb526 hg w9 hbox hb; have n0_ := Aside0.mk (Kd.R_below (by (with_reducible repeat (first | apply Kd.R_alloc | apply Kd.R_drewN | apply Kd.R_drew)); exact HO522.out) hb); have n1_ := Aside0.mk (below_step (by repeat (first | (with_reducible first | exact HB.out | apply below_alloc | apply pw_below_drewN | apply below_drew1) | exact HB.out)) hb); have n2_ := Aside0.mk (hbox); have n3_ := Aside0.mk ((by rw [hg]; exact (below_size (by repeat (first | (with_reducible first | exact HB.out | apply below_alloc | apply pw_below_drewN | apply below_drew1) | exact HB.out))) : w.heap.size ≤ gb526)); have n4_ := Aside0.mk ((by rw [hg]; exact (below_size (by repeat (first | (with_reducible first | exact HB.out | apply below_alloc | apply pw_below_drewN | apply below_drew1) | exact HB.out))) : w.heap.size ≤ gb526)); clear HO522; clear HB; have HO522 := n0_; have HB := n1_; have BK526 := n2_; have GW526 := n3_; have GE526 := n4_; clear n0_ n1_ n2_ n3_ n4_; clear hb hbox hg; have hcz10_0 : w9.cell? ⟨gb526, 0, none⟩ = some (.int .i64 0) := (blk_cell BK526.out 0).trans rfl; have hcz10_1 : w9.cell? ⟨gb526, 1, none⟩ = some (.int .i64 0) := (blk_cell BK526.out 1).trans rfl; have hfz10_0 := blk_frozen BK526.out 0; have hfz10_1 := blk_frozen BK526.out 1))
  (try simp only [Act.put, List.setIfInBounds_toArray, List.set_cons_zero, List.set_cons_succ])
  go_cut [33] (fun v33 wc => ∃ (kq : Nat) (x33_4 : Bool), v33 = .bool x33_4 ∧ Aside0 (comfitlaw04_PacketsCount.j0 kq l0 a1 t525 x33_4 t523 t524 = some r) ∧ Aside0 (kq ≤ k) ∧ Aside0 (wc.heap[gb526]? = some (.cells #[.int .i64 t523, .int .i64 t524] 25 (0, 0))) ∧ Aside0 (Below w.heap.size w wc))
  case first =>
    have H := HC5.out
    clear HC5
    by_cases c11 : t525 = 0
    · rw [if_pos c11] at H
      have c11b0 : (t525 == 0) = true := beq_iff_eq.mpr c11
      have c11b1 : (t525 != 0) = false := bne_eq_false_iff_eq.mpr c11
      clear c11
      (first | rw [c11b0] | (simp only [i64_w, i32_w]; rw [c11b0]) | skip)
      replace H := Option.bind_eq_some_iff.mp H
      obtain ⟨t527, A120, H⟩ := H
      replace H : (if t527 = true then (if a1 < 0 then (comfitlaw04_PacketsCount.j0 k l0 a1 t525 true t523 t524) else (comfitlaw04_PacketsCount.j0 k l0 a1 t525 (decide (a1 > 8)) t523 t524)) else (comfitlaw04_PacketsCount.j0 k l0 a1 t525 true t523 t524)) = some r := H
      have A12 := Aside0.mk A120
      clear A120
      by_cases c13 : t527 = true
      · subst c13
        have H1 : (if a1 < 0 then (comfitlaw04_PacketsCount.j0 k l0 a1 t525 true t523 t524) else (comfitlaw04_PacketsCount.j0 k l0 a1 t525 (decide (a1 > 8)) t523 t524)) = some r := by rw [if_pos rfl] at H; exact H
        clear H
        have H := H1
        clear H1
        by_cases c14 : a1 < 0
        · rw [if_pos c14] at H
          have c14b0 : decide (a1 < 0) = true := decide_eq_true c14
          clear c14
          have H' := Aside0.mk H
          clear H
          go_wp2_with (first | (go_at_call 33; (with_reducible refine (comfitref04_Weights.calls k _ _ l0 true _ ?side1 ?side2 A12.out).mono ?_); (case side1 => exact Kd.C_below HR0.out (by repeat (first | (with_reducible first | exact HB.out | apply below_alloc | apply pw_below_drewN | apply below_drew1 | refine below_set ?_ GE526.out) | exact HB.out))); (case side2 => exact HC0.out); rintro e w' ⟨rfl, ⟨nd, rfl⟩⟩))
          go_meet
          case rel => exact ⟨_, (true), (by first | rfl | (simp; done) | (simp [*]; done)), H', ⟨by first | omega | exact Nat.le_refl _⟩, ⟨by (with_reducible repeat (first | refine blk_drewN ?_ _ | refine blk_drew ?_ | refine blk_alloc ?_ _)); refine blk_put (cs := #[.int .i64 t523, .int .i64 0]) ?_ 1 _ rfl; (with_reducible repeat (first | refine blk_drewN ?_ _ | refine blk_drew ?_ | refine blk_alloc ?_ _)); refine blk_put (cs := #[.int .i64 0, .int .i64 0]) ?_ 0 _ rfl; (with_reducible repeat (first | refine blk_drewN ?_ _ | refine blk_drew ?_ | refine blk_alloc ?_ _)); exact BK526.out⟩, ⟨by repeat (first | (with_reducible first | exact HB.out | apply below_alloc | apply pw_below_drewN | apply below_drew1 | refine below_set ?_ GE526.out) | exact HB.out)⟩⟩
        · rw [if_neg c14] at H
          have c14b0 : decide (a1 < 0) = false := decide_eq_false c14
          clear c14
          have H' := Aside0.mk H
          clear H
          go_wp2_with (first | (go_at_call 33; (with_reducible refine (comfitref04_Weights.calls k _ _ l0 true _ ?side1 ?side2 A12.out).mono ?_); (case side1 => exact Kd.C_below HR0.out (by repeat (first | (with_reducible first | exact HB.out | apply below_alloc | apply pw_below_drewN | apply below_drew1 | refine below_set ?_ GE526.out) | exact HB.out))); (case side2 => exact HC0.out); rintro e w' ⟨rfl, ⟨nd, rfl⟩⟩))
          go_meet
          case rel => exact ⟨_, (decide (a1 > 8)), (by first | rfl | (simp; done) | (simp [*]; done)), H', ⟨by first | omega | exact Nat.le_refl _⟩, ⟨by (with_reducible repeat (first | refine blk_drewN ?_ _ | refine blk_drew ?_ | refine blk_alloc ?_ _)); refine blk_put (cs := #[.int .i64 t523, .int .i64 0]) ?_ 1 _ rfl; (with_reducible repeat (first | refine blk_drewN ?_ _ | refine blk_drew ?_ | refine blk_alloc ?_ _)); refine blk_put (cs := #[.int .i64 0, .int .i64 0]) ?_ 0 _ rfl; (with_reducible repeat (first | refine blk_drewN ?_ _ | refine blk_drew ?_ | refine blk_alloc ?_ _)); exact BK526.out⟩, ⟨by repeat (first | (with_reducible first | exact HB.out | apply below_alloc | apply pw_below_drewN | apply below_drew1 | refine below_set ?_ GE526.out) | exact HB.out)⟩⟩
      · replace c13 := Bool.eq_false_iff.mpr c13
        subst c13
        have H1 : (comfitlaw04_PacketsCount.j0 k l0 a1 t525 true t523 t524) = some r := by rw [if_neg (show ¬ (false = true) by decide)] at H; exact H
        clear H
        have H := H1
        clear H1
        have H' := Aside0.mk H
        clear H
        go_wp2_with (first | (go_at_call 33; (with_reducible refine (comfitref04_Weights.calls k _ _ l0 false _ ?side1 ?side2 A12.out).mono ?_); (case side1 => exact Kd.C_below HR0.out (by repeat (first | (with_reducible first | exact HB.out | apply below_alloc | apply pw_below_drewN | apply below_drew1 | refine below_set ?_ GE526.out) | exact HB.out))); (case side2 => exact HC0.out); rintro e w' ⟨rfl, ⟨nd, rfl⟩⟩))
        go_meet
        case rel => exact ⟨_, (true), (by first | rfl | (simp; done) | (simp [*]; done)), H', ⟨by first | omega | exact Nat.le_refl _⟩, ⟨by (with_reducible repeat (first | refine blk_drewN ?_ _ | refine blk_drew ?_ | refine blk_alloc ?_ _)); refine blk_put (cs := #[.int .i64 t523, .int .i64 0]) ?_ 1 _ rfl; (with_reducible repeat (first | refine blk_drewN ?_ _ | refine blk_drew ?_ | refine blk_alloc ?_ _)); refine blk_put (cs := #[.int .i64 0, .int .i64 0]) ?_ 0 _ rfl; (with_reducible repeat (first | refine blk_drewN ?_ _ | refine blk_drew ?_ | refine blk_alloc ?_ _)); exact BK526.out⟩, ⟨by repeat (first | (with_reducible first | exact HB.out | apply below_alloc | apply pw_below_drewN | apply below_drew1 | refine below_set ?_ GE526.out) | exact HB.out)⟩⟩
    · rw [if_neg c11] at H
      have c11b0 : (t525 == 0) = false := beq_eq_false_iff_ne.mpr c11
      have c11b1 : (t525 != 0) = true := bne_iff_ne.mpr c11
      (first | rw [c11b0] | (simp only [i64_w, i32_w]; rw [c11b0]) | skip)
      have H' := Aside0.mk H
      clear H
      go_wp2
      go_meet
      case rel => exact ⟨_, (true), (by first | rfl | (simp; done) | (simp [*]; done)), H', ⟨by first | omega | exact Nat.le_refl _⟩, ⟨by (with_reducible repeat (first | refine blk_drewN ?_ _ | refine blk_drew ?_ | refine blk_alloc ?_ _)); refine blk_put (cs := #[.int .i64 t523, .int .i64 0]) ?_ 1 _ rfl; (with_reducible repeat (first | refine blk_drewN ?_ _ | refine blk_drew ?_ | refine blk_alloc ?_ _)); refine blk_put (cs := #[.int .i64 0, .int .i64 0]) ?_ 0 _ rfl; (with_reducible repeat (first | refine blk_drewN ?_ _ | refine blk_drew ?_ | refine blk_alloc ?_ _)); exact BK526.out⟩, ⟨by repeat (first | (with_reducible first | exact HB.out | apply below_alloc | apply pw_below_drewN | apply below_drew1 | refine below_set ?_ GE526.out) | exact HB.out)⟩⟩
  case rest =>
    clear HC5
    try clear c1
    try clear c2
    try clear p2
    try clear c3
    try clear c11
    try clear c11b0
    try clear c11b1
    try clear c12
    try clear c13
    try clear c14
    try clear c14b0
    try clear hcz10_0
    try clear hcz10_1
    try clear hfz10_0
    try clear hfz10_1
    obtain ⟨kq, x33_4, rfl, HA, HJ4, BK526, HB⟩ := hcut
    cases kq with
    | zero => exact absurd HA.out (by simp [comfitlaw04_PacketsCount.j0])
    | succ kj4 =>
      have H := HA.out
      clear HA
      simp only [comfitlaw04_PacketsCount.j0] at H
      by_cases c15 : x33_4 = true
      · subst c15
        have H1 : (if t525 = 2 then ((comfitlaw04_awake.f kj4).bind fun t528 => (some t528)) else (some false)) = some r := by rw [if_pos rfl] at H; exact H
        clear H
        have H := H1
        clear H1
        by_cases c16 : t525 = 2
        · rw [if_pos c16] at H
          have c16b0 : (t525 == 2) = true := beq_iff_eq.mpr c16
          have c16b1 : (t525 != 2) = false := bne_eq_false_iff_eq.mpr c16
          clear c16
          replace H := Option.bind_eq_some_iff.mp H
          obtain ⟨t528, A170, H⟩ := H
          replace H : (some t528) = some r := H
          have A17 := Aside0.mk A170
          clear A170
          obtain rfl := Option.some.inj H
          go_wp2_with (first | (go_at_call 20; (with_reducible refine (comfitlaw04_awake.calls kj4  t528 _ A17.out).mono ?_); rintro e w18 ⟨rfl, hb⟩; have n0_ := Aside0.mk (blk_below (g := gb526) (o := .cells #[.int .i64 t523, .int .i64 t524] 25 (0, 0)) (by (with_reducible repeat (first | refine blk_drewN ?_ _ | refine blk_drew ?_ | refine blk_alloc ?_ _)); exact BK526.out) hb); have n1_ := Aside0.mk (below_step (by repeat (first | (with_reducible first | exact HB.out | apply below_alloc | apply pw_below_drewN | apply below_drew1 | refine below_set ?_ GE526.out) | exact HB.out)) hb); clear BK526; clear HB; have BK526 := n0_; have HB := n1_; clear n0_ n1_; (try clear hb); (try clear hb2); (try clear hk); (try clear hi)))
          go_ret
          exact ⟨by first | rfl | (simp [errW_none, errW_some] <;> rfl) | (simp [*, errW_none, errW_some] <;> rfl), by repeat (first | (with_reducible first | exact HB.out | apply below_alloc | apply pw_below_drewN | apply below_drew1 | refine below_set ?_ GE526.out) | exact HB.out)⟩
        · rw [if_neg c16] at H
          have c16b0 : (t525 == 2) = false := beq_eq_false_iff_ne.mpr c16
          have c16b1 : (t525 != 2) = true := bne_iff_ne.mpr c16
          obtain rfl := Option.some.inj H
          go_wp2
          go_ret
          exact ⟨by first | rfl | (simp [errW_none, errW_some] <;> rfl) | (simp [*, errW_none, errW_some] <;> rfl), by repeat (first | (with_reducible first | exact HB.out | apply below_alloc | apply pw_below_drewN | apply below_drew1 | refine below_set ?_ GE526.out) | exact HB.out)⟩
      · replace c15 := Bool.eq_false_iff.mpr c15
        subst c15
        have H1 : (comfitlaw04_PacketsCount.l0 kj4 l0 a1 (l0.length : Int) 0 t523 t524 0 1) = some r := by rw [if_neg (show ¬ (false = true) by decide)] at H; exact H
        clear H
        have H := H1
        clear H1
        have H' := Aside0.mk H
        clear H
        go_wp2_with (first | ((with_reducible refine gate_dst (N := 7) rfl ?_); (try (refine gate_guard (by rfl) ?_; dsimp only)); refine box_event ?hg (N := 7) ?hd (cs := #[.int .i64 0, .int .i64 0]) (t := 25) ?hr ?_; (case hd => rfl); (case hg => rfl); (case hr => first | (go_simp; done) | (go_simp; rfl)); intro gb529 hg w19 hbox hb; have n0_ := Aside0.mk (blk_below (g := gb526) (o := .cells #[.int .i64 t523, .int .i64 t524] 25 (0, 0)) (by (with_reducible repeat (first | refine blk_drewN ?_ _ | refine blk_drew ?_ | refine blk_alloc ?_ _)); exact BK526.out) hb); have n1_ := Aside0.mk (below_step (by repeat (first | (with_reducible first | exact HB.out | apply below_alloc | apply pw_below_drewN | apply below_drew1 | refine below_set ?_ GE526.out) | exact HB.out)) hb); have n2_ := Aside0.mk (hbox); have n3_ := Aside0.mk ((by rw [hg]; exact (below_size (by repeat (first | (with_reducible first | exact HB.out | apply below_alloc | apply pw_below_drewN | apply below_drew1 | refine below_set ?_ GE526.out) | exact HB.out))) : w.heap.size ≤ gb529)); have n4_ := Aside0.mk ((by rw [hg]; exact (below_size (by repeat (first | (with_reducible first | exact HB.out | apply below_alloc | apply pw_below_drewN | apply below_drew1 | refine below_set ?_ GE526.out) | exact HB.out))) : w.heap.size ≤ gb529)); have n5_ := Aside0.mk ((by rw [hg]; exact Nat.ne_of_lt (blk_lt (g := gb526) (o := .cells #[.int .i64 t523, .int .i64 t524] 25 (0, 0)) (by (with_reducible repeat (first | refine blk_drewN ?_ _ | refine blk_drew ?_ | refine blk_alloc ?_ _)); exact BK526.out)) : gb526 ≠ gb529)); have n6_ := Aside0.mk ((by rw [hg]; exact Nat.ne_of_gt (blk_lt (g := gb526) (o := .cells #[.int .i64 t523, .int .i64 t524] 25 (0, 0)) (by (with_reducible repeat (first | refine blk_drewN ?_ _ | refine blk_drew ?_ | refine blk_alloc ?_ _)); exact BK526.out)) : gb529 ≠ gb526)); clear BK526; clear HB; have BK526 := n0_; have HB := n1_; have BK529 := n2_; have GW529 := n3_; have GE529 := n4_; have NB526_529 := n5_; have NB529_526 := n6_; clear n0_ n1_ n2_ n3_ n4_ n5_ n6_; clear hb hbox hg; have hnb20 := NB529_526.out; have hnc20 := NB526_529.out; have hcz21_0 : w19.cell? ⟨gb529, 0, none⟩ = some (.int .i64 0) := (blk_cell BK529.out 0).trans rfl; have hcz21_1 : w19.cell? ⟨gb529, 1, none⟩ = some (.int .i64 0) := (blk_cell BK529.out 1).trans rfl; have hfz21_0 := blk_frozen BK529.out 0; have hfz21_1 := blk_frozen BK529.out 1))
        go_loopg [42] kj4 (fun kq v42 w' => ∃ (x42_2 : Int) (x530000_2 : Int) (x530001_2 : Int), v42 = .int .i64 x42_2 ∧ Aside0 (comfitlaw04_PacketsCount.l0 kq l0 a1 (l0.length : Int) x42_2 t523 t524 x530000_2 x530001_2 = some r) ∧ Aside0 (kq ≤ kj4) ∧ Aside0 (w'.heap[gb526]? = some (.cells #[.int .i64 t523, .int .i64 t524] 25 (0, 0))) ∧ Aside0 (w'.heap[gb529]? = some (.cells #[.int .i64 x530000_2, .int .i64 x530001_2] 25 (0, 0))) ∧ Aside0 (Below w.heap.size w w'))
        case atStart => exact ⟨(0), (0), (1), (by first | rfl | (simp; done) | (simp [*]; done)), H', ⟨Nat.le_refl _⟩, ⟨by (with_reducible repeat (first | refine blk_drewN ?_ _ | refine blk_drew ?_ | refine blk_alloc ?_ _)); refine blk_far ?_ NB526_529.out _; (with_reducible repeat (first | refine blk_drewN ?_ _ | refine blk_drew ?_ | refine blk_alloc ?_ _)); refine blk_far ?_ NB526_529.out _; (with_reducible repeat (first | refine blk_drewN ?_ _ | refine blk_drew ?_ | refine blk_alloc ?_ _)); exact BK526.out⟩, ⟨by (with_reducible repeat (first | refine blk_drewN ?_ _ | refine blk_drew ?_ | refine blk_alloc ?_ _)); refine blk_put (cs := #[.int .i64 0, .int .i64 0]) ?_ 1 _ rfl; (with_reducible repeat (first | refine blk_drewN ?_ _ | refine blk_drew ?_ | refine blk_alloc ?_ _)); refine blk_put (cs := #[.int .i64 0, .int .i64 0]) ?_ 0 _ rfl; (with_reducible repeat (first | refine blk_drewN ?_ _ | refine blk_drew ?_ | refine blk_alloc ?_ _)); exact BK529.out⟩, ⟨by repeat (first | (with_reducible first | exact HB.out | apply below_alloc | apply pw_below_drewN | apply below_drew1 | refine below_set ?_ GE526.out | refine below_set ?_ GE529.out) | exact HB.out)⟩⟩
        case round =>
          clear H'
          try clear c1
          try clear c2
          try clear p2
          try clear c3
          try clear c11
          try clear c11b0
          try clear c11b1
          try clear c12
          try clear c13
          try clear c14
          try clear c14b0
          try clear c15
          try clear c16
          try clear c16b0
          try clear c16b1
          try clear c20
          try clear hcz10_0
          try clear hcz10_1
          try clear hcz21_0
          try clear hcz21_1
          try clear hfz10_0
          try clear hfz10_1
          try clear hfz21_0
          try clear hfz21_1
          try clear p2
          obtain ⟨x42_2, x530000_2, x530001_2, rfl, HA, HK2, BK526, BK529, HB⟩ := hrel
          cases gk with
          | zero => exact absurd HA.out (by simp [comfitlaw04_PacketsCount.l0])
          | succ k2 =>
            have H := HA.out
            clear HA
            simp only [comfitlaw04_PacketsCount.l0] at H
            by_cases c22 : x42_2 < (l0.length : Int)
            · rw [if_pos c22] at H
              have c22b0 : decide (x42_2 < (l0.length : Int)) = true := decide_eq_true c22
              clear c22
              replace H := Option.bind_eq_some_iff.mp H
              obtain ⟨t530, A230, H⟩ := H
              replace H : (if 0 ≤ x42_2 then ((packets_Done.f k2 t530 (shl .i64 1 x42_2) a1).bind fun bt533 => (if bt533.2.2 = 0 then ((comfitlaw04_right.f bt533.1 bt533.2.1 1).bind fun t537 => (comfitlaw04_PacketsCount.j2 k2 l0 a1 (l0.length : Int) x42_2 (!t537) t523 t524 x530000_2 x530001_2 bt533.1 bt533.2.1)) else (comfitlaw04_PacketsCount.j2 k2 l0 a1 (l0.length : Int) x42_2 true t523 t524 x530000_2 x530001_2 bt533.1 bt533.2.1))) else (none)) = some r := H
              have A23 := Aside0.mk A230
              clear A230
              by_cases c24 : 0 ≤ x42_2
              · rw [if_pos c24] at H
                have c24b0 := eq_true c24
                have c24b1 : decide (0 ≤ x42_2) = true := decide_eq_true c24
                clear c24
                obtain ⟨ji25, hji25⟩ : ∃ j_ : Int, (shl .i64 1 x42_2) = j_ := ⟨_, rfl⟩
                replace H : ((packets_Done.f k2 t530 (ji25) a1).bind fun bt533 => (if bt533.2.2 = 0 then ((comfitlaw04_right.f bt533.1 bt533.2.1 1).bind fun t537 => (comfitlaw04_PacketsCount.j2 k2 l0 a1 (l0.length : Int) x42_2 (!t537) t523 t524 x530000_2 x530001_2 bt533.1 bt533.2.1)) else (comfitlaw04_PacketsCount.j2 k2 l0 a1 (l0.length : Int) x42_2 true t523 t524 x530000_2 x530001_2 bt533.1 bt533.2.1))) = some r := by first | (rw [hji25] at H; exact H) | (simp only [hji25] at H ⊢; exact H)
                (try rw [hji25] at A23)
                have hji25_ : (IntKind.i64.wrap (1 * 2 ^ min x42_2.toNat 64)) = ji25 := hji25
                have hji25z : x42_2 ≤ 64 → (IntKind.i64.wrap (1 * 2 ^ x42_2.toNat)) = ji25 := shl_small hji25
                have hji25u : (IntKind.i64.wrap (2 ^ min x42_2.toNat 64)) = ji25 := by have h_ := hji25_; rw [Int.one_mul] at h_; exact h_
                have hji25v : x42_2 ≤ 64 → (IntKind.i64.wrap (2 ^ x42_2.toNat)) = ji25 := fun hle_ => by have h_ := hji25z hle_; rw [Int.one_mul] at h_; exact h_
                have hji25y : (wrap64 (1 * 2 ^ min x42_2.toNat 64)) = ji25 := (i64_w _).symm.trans hji25_
                have hji25x : x42_2 ≤ 64 → (wrap64 (1 * 2 ^ x42_2.toNat)) = ji25 := fun h_ => (i64_w _).symm.trans (hji25z h_)
                replace H := Option.bind_eq_some_iff.mp H
                obtain ⟨⟨t533, t534, t535⟩, A260, H⟩ := H
                replace H : (if t535 = 0 then ((comfitlaw04_right.f t533 t534 1).bind fun t537 => (comfitlaw04_PacketsCount.j2 k2 l0 a1 (l0.length : Int) x42_2 (!t537) t523 t524 x530000_2 x530001_2 t533 t534)) else (comfitlaw04_PacketsCount.j2 k2 l0 a1 (l0.length : Int) x42_2 true t523 t524 x530000_2 x530001_2 t533 t534)) = some r := H
                have A26 := Aside0.mk A260
                clear A260
                have HC27 := Aside0.mk H
                clear H
                try go_wp2
                have n0_ := Aside0.mk (blk_drew BK526.out)
                have n1_ := Aside0.mk (blk_drew BK529.out)
                have n2_ := Aside0.mk (below_drew1 HB.out)
                clear BK526
                clear BK529
                clear HB
                have BK526 := n0_
                have BK529 := n1_
                have HB := n2_
                clear n0_ n1_ n2_
                refine start_ (n := 12) (S := fun w' => True) (ds := []) #[false, false, false, false, false, false, false, false, false, false, false, false] (by kernel_rfl) rfl rfl trivial (fun hHeld => ?_); refine with_tabW comfitlaw04_PacketsCount.tab8 comfitlaw04_PacketsCount.bits8 (fun HT_ HW_ => ?_)
                generalize wr.drew = w28 at BK526 BK529 HB hHeld ⊢
                refine pure_ (i := 0) (N := some 46) (v := ?_) (a' := ?_) #[true, false, false, false, false, false, false, false, false, false, false, false] rfl rfl (any_of HT_.out (by kernel_rfl)) (fun _ _ _ h => h) (Or.inl ⟨by rfl, ?_⟩) ?_ ?_
                rotate_left
                · intro w'
                  go_simp
                  with_reducible rfl
                rotate_left
                · simp only [Act.put, List.setIfInBounds_toArray, List.set_cons_zero, List.set_cons_succ, i64_w, i32_w]
                  rfl
                refine pure_ (i := 2) (N := some 48) (v := ?_) (a' := ?_) #[true, false, true, false, false, false, false, false, false, false, false, false] rfl rfl (any_of HT_.out (by kernel_rfl)) (fun _ _ _ h => h) (Or.inl ⟨by rfl, ?_⟩) ?_ ?_
                rotate_left
                · intro w'
                  go_simp
                  with_reducible rfl
                rotate_left
                · simp only [Act.put, List.setIfInBounds_toArray, List.set_cons_zero, List.set_cons_succ, i64_w, i32_w]
                  rfl
                refine pure_ (i := 3) (N := some 49) (v := ?_) (a' := ?_) #[true, false, true, true, false, false, false, false, false, false, false, false] rfl rfl (any_of HT_.out (by kernel_rfl)) (fun _ _ _ h => h) (Or.inl ⟨by rfl, ?_⟩) ?_ ?_
                rotate_left
                · intro w'
                  go_simp
                  with_reducible rfl
                rotate_left
                · simp only [Act.put, List.setIfInBounds_toArray, List.set_cons_zero, List.set_cons_succ, i64_w, i32_w]
                  rfl
                refine pure_ (i := 4) (N := some 50) (v := ?_) (a' := ?_) #[true, false, true, true, true, false, false, false, false, false, false, false] rfl rfl (any_of HT_.out (by kernel_rfl)) (fun _ _ _ h => h) (Or.inl ⟨by rfl, ?_⟩) ?_ ?_
                rotate_left
                · intro w'
                  go_simp
                  with_reducible rfl
                rotate_left
                · simp only [Act.put, List.setIfInBounds_toArray, List.set_cons_zero, List.set_cons_succ, i64_w, i32_w]
                  rfl
                refine join_ (σ := Value × Nat) 2 #[true, true, true, true, true, true, true, true, true, true, false, false] (fun s_ => [(47, s_.1), (51, .tuple #[.agg #[.int .i64 t533, .int .i64 t534], .int .i64 t535]), (9, .pointer (some ⟨s_.2, 0, none⟩)), (45, .tuple #[.agg #[.int .i64 t533, .int .i64 t534], .int .i64 t535]), (52, .agg #[.int .i64 t533, .int .i64 t534]), (53, .int .i64 t535)]) (fun s_ w' => (Kd.R (Kd.int .i64) 3 w' w.heap.size (fun _ => True) s_.1 t530) ∧ (w'.heap[gb526]? = some (.cells #[.int .i64 t523, .int .i64 t524] 25 (0, 0))) ∧ (w'.heap[gb529]? = some (.cells #[.int .i64 x530000_2, .int .i64 x530001_2] 25 (0, 0))) ∧ (w'.heap[s_.2]? = some (.cells #[.int .i64 0, .int .i64 0] 25 (0, 0))) ∧ (w.heap.size ≤ s_.2) ∧ (w.heap.size ≤ s_.2) ∧ (gb526 ≠ s_.2) ∧ (s_.2 ≠ gb526) ∧ (gb529 ≠ s_.2) ∧ (s_.2 ≠ gb529) ∧ (Below w.heap.size w w')) ?_ ?_
                rotate_left
                · intro hCont
                  refine two_ (i := 1) (j := 9) (Ni := some 47) (Nj := some 9) #[true, true, true, true, true, false, false, false, false, false, false, false] #[true, false, true, true, true, false, false, false, false, true, false, false] rfl rfl rfl rfl (two_of HT_.out (by kernel_rfl)) (by decide) (by decide) (fun K hK => ?_) (fun K hK => ?_)
                  · skip
                    refine goes_ Try.func22 (by kernel_rfl) rfl #[.slice A0 l0.length c0] (by rfl) rfl rfl (by (try simp only [List.map_toArray, List.map_cons, List.map_nil]); first | done | rfl | (simp only [List.length_drop, List.length_take]; rfl)) ?_
                    with_reducible refine (comfitlaw04_list.calls _ _ l0 t530 _ ?side1 ?side2 A23.out).mono ?_
                    (case side1 => repeat (first | exact (Kd.C_below HR0.out HB.out) | (with_reducible refine Kd.C_alloc ?_ _) | (with_reducible refine Kd.C_drewN ?_ _) | (with_reducible refine Kd.C_drew ?_)))
                    (case side2 => exact HC0.out)
                    rintro e w29 ⟨v531, rfl, ho0, hb⟩
                    refine ⟨_, rfl, ?_⟩
                    have n0_ := Aside0.mk (Kd.R_lower ho0 (below_size (by repeat (first | (with_reducible first | exact HB.out | apply below_alloc | apply pw_below_drewN | apply below_drew1 | refine below_set ?_ GE526.out | refine below_set ?_ GE529.out) | exact HB.out))))
                    have n1_ := Aside0.mk (blk_below (g := gb526) (o := .cells #[.int .i64 t523, .int .i64 t524] 25 (0, 0)) (by (with_reducible repeat (first | refine blk_drewN ?_ _ | refine blk_drew ?_ | refine blk_alloc ?_ _)); exact BK526.out) hb)
                    have n2_ := Aside0.mk (blk_below (g := gb529) (o := .cells #[.int .i64 x530000_2, .int .i64 x530001_2] 25 (0, 0)) (by (with_reducible repeat (first | refine blk_drewN ?_ _ | refine blk_drew ?_ | refine blk_alloc ?_ _)); exact BK529.out) hb)
                    have n3_ := Aside0.mk (below_step (by repeat (first | (with_reducible first | exact HB.out | apply below_alloc | apply pw_below_drewN | apply below_drew1 | refine below_set ?_ GE526.out | refine below_set ?_ GE529.out) | exact HB.out)) hb)
                    clear BK526
                    clear BK529
                    clear HB
                    have HO532 := n0_
                    have BK526 := n1_
                    have BK529 := n2_
                    have HB := n3_
                    clear n0_ n1_ n2_ n3_
                    (try clear hb)
                    (try clear hb2)
                    (try clear hk)
                    (try clear hi)
                    (try clear ho0)
                    obtain ⟨Ao30, co30, eo30⟩ := Kd.R_slice HO532.out
                    (first | subst eo30 | (injection eo30 with f1_ f2_ f3_; have f4_ := f1_.symm; have f5_ := f3_.symm; clear f1_ f2_ f3_; subst f4_; subst f5_))
                    refine hK.out _ _ trivial (fun hHeld => ?_)
                    clear hK K
                    refine norm_ (a' := ?_) ?_ ?_
                    rotate_left
                    · show Act.put _ (some 47) _ = _
                      simp only [Act.put, List.setIfInBounds_toArray, List.set_cons_zero, List.set_cons_succ, i64_w, i32_w]
                      rfl
                    refine two_ (i := 5) (j := 9) (Ni := some 51) (Nj := some 9) #[true, true, true, true, true, true, false, false, false, false, false, false] #[true, true, true, true, true, false, false, false, false, true, false, false] rfl rfl rfl rfl (two_of HT_.out (by kernel_rfl)) (by decide) (by decide) (fun K hK => ?_) (fun K hK => ?_)
                    · skip
                      refine goes_ Try.func37 (by kernel_rfl) rfl #[.slice Ao30 t530.length co30, .int .i64 ji25, .int .i64 a1] (by rfl) rfl rfl (by (try simp only [List.map_toArray, List.map_cons, List.map_nil]); first | done | (simp only [hji25]; rfl) | rfl | (simp only [List.length_drop, List.length_take]; rfl)) ?_
                      with_reducible refine (packets_Done.calls k2 _ _ t530 ji25 a1 t533 t534 t535 _ ?side1 ?side2 A26.out).mono ?_
                      (case side1 => repeat (first | exact (Kd.R_reads' HO532.out).2.2 | (with_reducible refine Kd.C_alloc ?_ _) | (with_reducible refine Kd.C_drewN ?_ _) | (with_reducible refine Kd.C_drew ?_)))
                      (case side2 => exact (Kd.R_reads' HO532.out).2.1)
                      rintro e w31 ⟨rfl, hb⟩
                      refine ⟨_, rfl, ?_⟩
                      have n0_ := Aside0.mk (Kd.R_below (by (with_reducible repeat (first | apply Kd.R_alloc | apply Kd.R_drewN | apply Kd.R_drew)); exact HO532.out) hb)
                      have n1_ := Aside0.mk (blk_below (g := gb526) (o := .cells #[.int .i64 t523, .int .i64 t524] 25 (0, 0)) (by (with_reducible repeat (first | refine blk_drewN ?_ _ | refine blk_drew ?_ | refine blk_alloc ?_ _)); exact BK526.out) hb)
                      have n2_ := Aside0.mk (blk_below (g := gb529) (o := .cells #[.int .i64 x530000_2, .int .i64 x530001_2] 25 (0, 0)) (by (with_reducible repeat (first | refine blk_drewN ?_ _ | refine blk_drew ?_ | refine blk_alloc ?_ _)); exact BK529.out) hb)
                      have n3_ := Aside0.mk (below_step (by repeat (first | (with_reducible first | exact HB.out | apply below_alloc | apply pw_below_drewN | apply below_drew1 | refine below_set ?_ GE526.out | refine below_set ?_ GE529.out) | exact HB.out)) hb)
                      clear HO532
                      clear BK526
                      clear BK529
                      clear HB
                      have HO532 := n0_
                      have BK526 := n1_
                      have BK529 := n2_
                      have HB := n3_
                      clear n0_ n1_ n2_ n3_
                      (try clear hb)
                      (try clear hb2)
                      (try clear hk)
                      (try clear hi)
                      refine hK.out _ _ trivial (fun hHeld => ?_)
                      clear hK K
                      refine norm_ (a' := ?_) ?_ ?_
                      rotate_left
                      · show Act.put _ (some 51) _ = _
                        simp only [Act.put, List.setIfInBounds_toArray, List.set_cons_zero, List.set_cons_succ, i64_w, i32_w]
                        rfl
                      refine pure_ (i := 6) (N := some 45) (v := ?_) (a' := ?_) #[true, true, true, true, true, true, true, false, false, false, false, false] rfl rfl (any_of HT_.out (by kernel_rfl)) (fun _ _ _ h => h) (Or.inl ⟨by rfl, ?_⟩) ?_ ?_
                      rotate_left
                      · intro w'
                        go_simp
                        with_reducible rfl
                      rotate_left
                      · simp only [Act.put, List.setIfInBounds_toArray, List.set_cons_zero, List.set_cons_succ, i64_w, i32_w]
                        rfl
                      refine pure_ (i := 7) (N := some 52) (v := ?_) (a' := ?_) #[true, true, true, true, true, true, true, true, false, false, false, false] rfl rfl (any_of HT_.out (by kernel_rfl)) (fun _ _ _ h => h) (Or.inl ⟨by rfl, ?_⟩) ?_ ?_
                      rotate_left
                      · intro w'
                        go_simp
                        with_reducible rfl
                      rotate_left
                      · simp only [Act.put, List.setIfInBounds_toArray, List.set_cons_zero, List.set_cons_succ, i64_w, i32_w]
                        rfl
                      refine pure_ (i := 8) (N := some 53) (v := ?_) (a' := ?_) #[true, true, true, true, true, true, true, true, true, false, false, false] rfl rfl (any_of HT_.out (by kernel_rfl)) (fun _ _ _ h => h) (Or.inl ⟨by rfl, ?_⟩) ?_ ?_
                      rotate_left
                      · intro w'
                        go_simp
                        with_reducible rfl
                      rotate_left
                      · simp only [Act.put, List.setIfInBounds_toArray, List.set_cons_zero, List.set_cons_succ, i64_w, i32_w]
                        rfl
                      refine one_ (i := 9) (N := some 9) #[true, true, true, true, true, true, true, true, true, true, false, false] rfl rfl (one_of HT_.out (by kernel_rfl)) (by decide) (fun K hK => ?_)
                      refine box_step ?hg (N := 9) ?hd (cs := #[.int .i64 0, .int .i64 0]) (t := 25) ?hr ?_; (case hd => rfl); (case hg => rfl); (case hr => first | (go_simp; done) | (go_simp; rfl))
                      intro gb536 hg w32 hbox hb
                      have n0_ := Aside0.mk (Kd.R_below (by (with_reducible repeat (first | apply Kd.R_alloc | apply Kd.R_drewN | apply Kd.R_drew)); exact HO532.out) hb)
                      have n1_ := Aside0.mk (blk_below (g := gb526) (o := .cells #[.int .i64 t523, .int .i64 t524] 25 (0, 0)) (by (with_reducible repeat (first | refine blk_drewN ?_ _ | refine blk_drew ?_ | refine blk_alloc ?_ _)); exact BK526.out) hb)
                      have n2_ := Aside0.mk (blk_below (g := gb529) (o := .cells #[.int .i64 x530000_2, .int .i64 x530001_2] 25 (0, 0)) (by (with_reducible repeat (first | refine blk_drewN ?_ _ | refine blk_drew ?_ | refine blk_alloc ?_ _)); exact BK529.out) hb)
                      have n3_ := Aside0.mk (below_step (by repeat (first | (with_reducible first | exact HB.out | apply below_alloc | apply pw_below_drewN | apply below_drew1 | refine below_set ?_ GE526.out | refine below_set ?_ GE529.out) | exact HB.out)) hb)
                      have n4_ := Aside0.mk (hbox)
                      have n5_ := Aside0.mk ((by rw [hg]; exact (below_size (by repeat (first | (with_reducible first | exact HB.out | apply below_alloc | apply pw_below_drewN | apply below_drew1 | refine below_set ?_ GE526.out | refine below_set ?_ GE529.out) | exact HB.out))) : w.heap.size ≤ gb536))
                      have n6_ := Aside0.mk ((by rw [hg]; exact (below_size (by repeat (first | (with_reducible first | exact HB.out | apply below_alloc | apply pw_below_drewN | apply below_drew1 | refine below_set ?_ GE526.out | refine below_set ?_ GE529.out) | exact HB.out))) : w.heap.size ≤ gb536))
                      have n7_ := Aside0.mk ((by rw [hg]; exact Nat.ne_of_lt (blk_lt (g := gb526) (o := .cells #[.int .i64 t523, .int .i64 t524] 25 (0, 0)) (by (with_reducible repeat (first | refine blk_drewN ?_ _ | refine blk_drew ?_ | refine blk_alloc ?_ _)); exact BK526.out)) : gb526 ≠ gb536))
                      have n8_ := Aside0.mk ((by rw [hg]; exact Nat.ne_of_gt (blk_lt (g := gb526) (o := .cells #[.int .i64 t523, .int .i64 t524] 25 (0, 0)) (by (with_reducible repeat (first | refine blk_drewN ?_ _ | refine blk_drew ?_ | refine blk_alloc ?_ _)); exact BK526.out)) : gb536 ≠ gb526))
                      have n9_ := Aside0.mk ((by rw [hg]; exact Nat.ne_of_lt (blk_lt (g := gb529) (o := .cells #[.int .i64 x530000_2, .int .i64 x530001_2] 25 (0, 0)) (by (with_reducible repeat (first | refine blk_drewN ?_ _ | refine blk_drew ?_ | refine blk_alloc ?_ _)); exact BK529.out)) : gb529 ≠ gb536))
                      have n10_ := Aside0.mk ((by rw [hg]; exact Nat.ne_of_gt (blk_lt (g := gb529) (o := .cells #[.int .i64 x530000_2, .int .i64 x530001_2] 25 (0, 0)) (by (with_reducible repeat (first | refine blk_drewN ?_ _ | refine blk_drew ?_ | refine blk_alloc ?_ _)); exact BK529.out)) : gb536 ≠ gb529))
                      clear HO532
                      clear BK526
                      clear BK529
                      clear HB
                      have HO532 := n0_
                      have BK526 := n1_
                      have BK529 := n2_
                      have HB := n3_
                      have BK536 := n4_
                      have GW536 := n5_
                      have GE536 := n6_
                      have NB526_536 := n7_
                      have NB536_526 := n8_
                      have NB529_536 := n9_
                      have NB536_529 := n10_
                      clear n0_ n1_ n2_ n3_ n4_ n5_ n6_ n7_ n8_ n9_ n10_
                      clear hb hbox hg
                      refine hK.out _ _ trivial (fun hHeld => ?_)
                      clear hK K
                      refine norm_ (a' := ?_) ?_ ?_
                      rotate_left
                      · show Act.put _ (some 9) _ = _
                        simp only [Act.put, List.setIfInBounds_toArray, List.set_cons_zero, List.set_cons_succ, i64_w, i32_w]
                        rfl
                      exact norm_ (by simp only [putAll, Act.put, List.setIfInBounds_toArray, List.set_cons_zero, List.set_cons_succ]) (hCont (.slice Ao30 t530.length co30, gb536) _ ⟨(by (with_reducible repeat (first | apply Kd.R_alloc | apply Kd.R_drewN | apply Kd.R_drew)); exact HO532.out), (by (with_reducible repeat (first | refine blk_drewN ?_ _ | refine blk_drew ?_ | refine blk_alloc ?_ _)); exact BK526.out), (by (with_reducible repeat (first | refine blk_drewN ?_ _ | refine blk_drew ?_ | refine blk_alloc ?_ _)); exact BK529.out), (by (with_reducible repeat (first | refine blk_drewN ?_ _ | refine blk_drew ?_ | refine blk_alloc ?_ _)); exact BK536.out), GW536.out, GE536.out, NB526_536.out, NB536_526.out, NB529_536.out, NB536_529.out, (by repeat (first | (with_reducible first | exact HB.out | apply below_alloc | apply pw_below_drewN | apply below_drew1 | refine below_set ?_ GE526.out | refine below_set ?_ GE529.out | refine below_set ?_ GE536.out) | exact HB.out))⟩)
                    · skip
                      refine box_step ?hg (N := 9) ?hd (cs := #[.int .i64 0, .int .i64 0]) (t := 25) ?hr ?_; (case hd => rfl); (case hg => rfl); (case hr => first | (go_simp; done) | (go_simp; rfl))
                      intro gb536 hg w30 hbox hb
                      have n0_ := Aside0.mk (Kd.R_below (by (with_reducible repeat (first | apply Kd.R_alloc | apply Kd.R_drewN | apply Kd.R_drew)); exact HO532.out) hb)
                      have n1_ := Aside0.mk (blk_below (g := gb526) (o := .cells #[.int .i64 t523, .int .i64 t524] 25 (0, 0)) (by (with_reducible repeat (first | refine blk_drewN ?_ _ | refine blk_drew ?_ | refine blk_alloc ?_ _)); exact BK526.out) hb)
                      have n2_ := Aside0.mk (blk_below (g := gb529) (o := .cells #[.int .i64 x530000_2, .int .i64 x530001_2] 25 (0, 0)) (by (with_reducible repeat (first | refine blk_drewN ?_ _ | refine blk_drew ?_ | refine blk_alloc ?_ _)); exact BK529.out) hb)
                      have n3_ := Aside0.mk (below_step (by repeat (first | (with_reducible first | exact HB.out | apply below_alloc | apply pw_below_drewN | apply below_drew1 | refine below_set ?_ GE526.out | refine below_set ?_ GE529.out) | exact HB.out)) hb)
                      have n4_ := Aside0.mk (hbox)
                      have n5_ := Aside0.mk ((by rw [hg]; exact (below_size (by repeat (first | (with_reducible first | exact HB.out | apply below_alloc | apply pw_below_drewN | apply below_drew1 | refine below_set ?_ GE526.out | refine below_set ?_ GE529.out) | exact HB.out))) : w.heap.size ≤ gb536))
                      have n6_ := Aside0.mk ((by rw [hg]; exact (below_size (by repeat (first | (with_reducible first | exact HB.out | apply below_alloc | apply pw_below_drewN | apply below_drew1 | refine below_set ?_ GE526.out | refine below_set ?_ GE529.out) | exact HB.out))) : w.heap.size ≤ gb536))
                      have n7_ := Aside0.mk ((by rw [hg]; exact Nat.ne_of_lt (blk_lt (g := gb526) (o := .cells #[.int .i64 t523, .int .i64 t524] 25 (0, 0)) (by (with_reducible repeat (first | refine blk_drewN ?_ _ | refine blk_drew ?_ | refine blk_alloc ?_ _)); exact BK526.out)) : gb526 ≠ gb536))
                      have n8_ := Aside0.mk ((by rw [hg]; exact Nat.ne_of_gt (blk_lt (g := gb526) (o := .cells #[.int .i64 t523, .int .i64 t524] 25 (0, 0)) (by (with_reducible repeat (first | refine blk_drewN ?_ _ | refine blk_drew ?_ | refine blk_alloc ?_ _)); exact BK526.out)) : gb536 ≠ gb526))
                      have n9_ := Aside0.mk ((by rw [hg]; exact Nat.ne_of_lt (blk_lt (g := gb529) (o := .cells #[.int .i64 x530000_2, .int .i64 x530001_2] 25 (0, 0)) (by (with_reducible repeat (first | refine blk_drewN ?_ _ | refine blk_drew ?_ | refine blk_alloc ?_ _)); exact BK529.out)) : gb529 ≠ gb536))
                      have n10_ := Aside0.mk ((by rw [hg]; exact Nat.ne_of_gt (blk_lt (g := gb529) (o := .cells #[.int .i64 x530000_2, .int .i64 x530001_2] 25 (0, 0)) (by (with_reducible repeat (first | refine blk_drewN ?_ _ | refine blk_drew ?_ | refine blk_alloc ?_ _)); exact BK529.out)) : gb536 ≠ gb529))
                      clear HO532
                      clear BK526
                      clear BK529
                      clear HB
                      have HO532 := n0_
                      have BK526 := n1_
                      have BK529 := n2_
                      have HB := n3_
                      have BK536 := n4_
                      have GW536 := n5_
                      have GE536 := n6_
                      have NB526_536 := n7_
                      have NB536_526 := n8_
                      have NB529_536 := n9_
                      have NB536_529 := n10_
                      clear n0_ n1_ n2_ n3_ n4_ n5_ n6_ n7_ n8_ n9_ n10_
                      clear hb hbox hg
                      obtain ⟨Ao31, co31, eo31⟩ := Kd.R_slice HO532.out
                      (first | subst eo31 | (injection eo31 with f1_ f2_ f3_; have f4_ := f1_.symm; have f5_ := f3_.symm; clear f1_ f2_ f3_; subst f4_; subst f5_))
                      refine hK.out _ _ trivial (fun hHeld => ?_)
                      clear hK K
                      refine norm_ (a' := ?_) ?_ ?_
                      rotate_left
                      · show Act.put _ (some 9) _ = _
                        simp only [Act.put, List.setIfInBounds_toArray, List.set_cons_zero, List.set_cons_succ, i64_w, i32_w]
                        rfl
                      refine one_ (i := 5) (N := some 51) #[true, true, true, true, true, true, false, false, false, true, false, false] rfl rfl (one_of HT_.out (by kernel_rfl)) (by decide) (fun K hK => ?_)
                      refine goes_ Try.func37 (by kernel_rfl) rfl #[.slice Ao31 t530.length co31, .int .i64 ji25, .int .i64 a1] (by rfl) rfl rfl (by (try simp only [List.map_toArray, List.map_cons, List.map_nil]); first | done | (simp only [hji25]; rfl) | rfl | (simp only [List.length_drop, List.length_take]; rfl)) ?_
                      with_reducible refine (packets_Done.calls k2 _ _ t530 ji25 a1 t533 t534 t535 _ ?side1 ?side2 A26.out).mono ?_
                      (case side1 => repeat (first | exact (Kd.R_reads' HO532.out).2.2 | (with_reducible refine Kd.C_alloc ?_ _) | (with_reducible refine Kd.C_drewN ?_ _) | (with_reducible refine Kd.C_drew ?_)))
                      (case side2 => exact (Kd.R_reads' HO532.out).2.1)
                      rintro e w32 ⟨rfl, hb⟩
                      refine ⟨_, rfl, ?_⟩
                      have n0_ := Aside0.mk (Kd.R_below (by (with_reducible repeat (first | apply Kd.R_alloc | apply Kd.R_drewN | apply Kd.R_drew)); exact HO532.out) hb)
                      have n1_ := Aside0.mk (blk_below (g := gb526) (o := .cells #[.int .i64 t523, .int .i64 t524] 25 (0, 0)) (by (with_reducible repeat (first | refine blk_drewN ?_ _ | refine blk_drew ?_ | refine blk_alloc ?_ _)); exact BK526.out) hb)
                      have n2_ := Aside0.mk (blk_below (g := gb529) (o := .cells #[.int .i64 x530000_2, .int .i64 x530001_2] 25 (0, 0)) (by (with_reducible repeat (first | refine blk_drewN ?_ _ | refine blk_drew ?_ | refine blk_alloc ?_ _)); exact BK529.out) hb)
                      have n3_ := Aside0.mk (blk_below (g := gb536) (o := .cells #[.int .i64 0, .int .i64 0] 25 (0, 0)) (by (with_reducible repeat (first | refine blk_drewN ?_ _ | refine blk_drew ?_ | refine blk_alloc ?_ _)); exact BK536.out) hb)
                      have n4_ := Aside0.mk (below_step (by repeat (first | (with_reducible first | exact HB.out | apply below_alloc | apply pw_below_drewN | apply below_drew1 | refine below_set ?_ GE526.out | refine below_set ?_ GE529.out | refine below_set ?_ GE536.out) | exact HB.out)) hb)
                      clear HO532
                      clear BK526
                      clear BK529
                      clear BK536
                      clear HB
                      have HO532 := n0_
                      have BK526 := n1_
                      have BK529 := n2_
                      have BK536 := n3_
                      have HB := n4_
                      clear n0_ n1_ n2_ n3_ n4_
                      (try clear hb)
                      (try clear hb2)
                      (try clear hk)
                      (try clear hi)
                      refine hK.out _ _ trivial (fun hHeld => ?_)
                      clear hK K
                      refine norm_ (a' := ?_) ?_ ?_
                      rotate_left
                      · show Act.put _ (some 51) _ = _
                        simp only [Act.put, List.setIfInBounds_toArray, List.set_cons_zero, List.set_cons_succ, i64_w, i32_w]
                        rfl
                      refine pure_ (i := 6) (N := some 45) (v := ?_) (a' := ?_) #[true, true, true, true, true, true, true, false, false, true, false, false] rfl rfl (any_of HT_.out (by kernel_rfl)) (fun _ _ _ h => h) (Or.inl ⟨by rfl, ?_⟩) ?_ ?_
                      rotate_left
                      · intro w'
                        go_simp
                        with_reducible rfl
                      rotate_left
                      · simp only [Act.put, List.setIfInBounds_toArray, List.set_cons_zero, List.set_cons_succ, i64_w, i32_w]
                        rfl
                      refine pure_ (i := 7) (N := some 52) (v := ?_) (a' := ?_) #[true, true, true, true, true, true, true, true, false, true, false, false] rfl rfl (any_of HT_.out (by kernel_rfl)) (fun _ _ _ h => h) (Or.inl ⟨by rfl, ?_⟩) ?_ ?_
                      rotate_left
                      · intro w'
                        go_simp
                        with_reducible rfl
                      rotate_left
                      · simp only [Act.put, List.setIfInBounds_toArray, List.set_cons_zero, List.set_cons_succ, i64_w, i32_w]
                        rfl
                      refine pure_ (i := 8) (N := some 53) (v := ?_) (a' := ?_) #[true, true, true, true, true, true, true, true, true, true, false, false] rfl rfl (any_of HT_.out (by kernel_rfl)) (fun _ _ _ h => h) (Or.inl ⟨by rfl, ?_⟩) ?_ ?_
                      rotate_left
                      · intro w'
                        go_simp
                        with_reducible rfl
                      rotate_left
                      · simp only [Act.put, List.setIfInBounds_toArray, List.set_cons_zero, List.set_cons_succ, i64_w, i32_w]
                        rfl
                      exact norm_ (by simp only [putAll, Act.put, List.setIfInBounds_toArray, List.set_cons_zero, List.set_cons_succ]) (hCont (.slice Ao31 t530.length co31, gb536) _ ⟨(by (with_reducible repeat (first | apply Kd.R_alloc | apply Kd.R_drewN | apply Kd.R_drew)); exact HO532.out), (by (with_reducible repeat (first | refine blk_drewN ?_ _ | refine blk_drew ?_ | refine blk_alloc ?_ _)); exact BK526.out), (by (with_reducible repeat (first | refine blk_drewN ?_ _ | refine blk_drew ?_ | refine blk_alloc ?_ _)); exact BK529.out), (by (with_reducible repeat (first | refine blk_drewN ?_ _ | refine blk_drew ?_ | refine blk_alloc ?_ _)); exact BK536.out), GW536.out, GE536.out, NB526_536.out, NB536_526.out, NB529_536.out, NB536_529.out, (by repeat (first | (with_reducible first | exact HB.out | apply below_alloc | apply pw_below_drewN | apply below_drew1 | refine below_set ?_ GE526.out | refine below_set ?_ GE529.out | refine below_set ?_ GE536.out) | exact HB.out))⟩)
                  · skip
                    refine box_step ?hg (N := 9) ?hd (cs := #[.int .i64 0, .int .i64 0]) (t := 25) ?hr ?_; (case hd => rfl); (case hg => rfl); (case hr => first | (go_simp; done) | (go_simp; rfl))
                    intro gb536 hg w29 hbox hb
                    have n0_ := Aside0.mk (blk_below (g := gb526) (o := .cells #[.int .i64 t523, .int .i64 t524] 25 (0, 0)) (by (with_reducible repeat (first | refine blk_drewN ?_ _ | refine blk_drew ?_ | refine blk_alloc ?_ _)); exact BK526.out) hb)
                    have n1_ := Aside0.mk (blk_below (g := gb529) (o := .cells #[.int .i64 x530000_2, .int .i64 x530001_2] 25 (0, 0)) (by (with_reducible repeat (first | refine blk_drewN ?_ _ | refine blk_drew ?_ | refine blk_alloc ?_ _)); exact BK529.out) hb)
                    have n2_ := Aside0.mk (below_step (by repeat (first | (with_reducible first | exact HB.out | apply below_alloc | apply pw_below_drewN | apply below_drew1 | refine below_set ?_ GE526.out | refine below_set ?_ GE529.out) | exact HB.out)) hb)
                    have n3_ := Aside0.mk (hbox)
                    have n4_ := Aside0.mk ((by rw [hg]; exact (below_size (by repeat (first | (with_reducible first | exact HB.out | apply below_alloc | apply pw_below_drewN | apply below_drew1 | refine below_set ?_ GE526.out | refine below_set ?_ GE529.out) | exact HB.out))) : w.heap.size ≤ gb536))
                    have n5_ := Aside0.mk ((by rw [hg]; exact (below_size (by repeat (first | (with_reducible first | exact HB.out | apply below_alloc | apply pw_below_drewN | apply below_drew1 | refine below_set ?_ GE526.out | refine below_set ?_ GE529.out) | exact HB.out))) : w.heap.size ≤ gb536))
                    have n6_ := Aside0.mk ((by rw [hg]; exact Nat.ne_of_lt (blk_lt (g := gb526) (o := .cells #[.int .i64 t523, .int .i64 t524] 25 (0, 0)) (by (with_reducible repeat (first | refine blk_drewN ?_ _ | refine blk_drew ?_ | refine blk_alloc ?_ _)); exact BK526.out)) : gb526 ≠ gb536))
                    have n7_ := Aside0.mk ((by rw [hg]; exact Nat.ne_of_gt (blk_lt (g := gb526) (o := .cells #[.int .i64 t523, .int .i64 t524] 25 (0, 0)) (by (with_reducible repeat (first | refine blk_drewN ?_ _ | refine blk_drew ?_ | refine blk_alloc ?_ _)); exact BK526.out)) : gb536 ≠ gb526))
                    have n8_ := Aside0.mk ((by rw [hg]; exact Nat.ne_of_lt (blk_lt (g := gb529) (o := .cells #[.int .i64 x530000_2, .int .i64 x530001_2] 25 (0, 0)) (by (with_reducible repeat (first | refine blk_drewN ?_ _ | refine blk_drew ?_ | refine blk_alloc ?_ _)); exact BK529.out)) : gb529 ≠ gb536))
                    have n9_ := Aside0.mk ((by rw [hg]; exact Nat.ne_of_gt (blk_lt (g := gb529) (o := .cells #[.int .i64 x530000_2, .int .i64 x530001_2] 25 (0, 0)) (by (with_reducible repeat (first | refine blk_drewN ?_ _ | refine blk_drew ?_ | refine blk_alloc ?_ _)); exact BK529.out)) : gb536 ≠ gb529))
                    clear BK526
                    clear BK529
                    clear HB
                    have BK526 := n0_
                    have BK529 := n1_
                    have HB := n2_
                    have BK536 := n3_
                    have GW536 := n4_
                    have GE536 := n5_
                    have NB526_536 := n6_
                    have NB536_526 := n7_
                    have NB529_536 := n8_
                    have NB536_529 := n9_
                    clear n0_ n1_ n2_ n3_ n4_ n5_ n6_ n7_ n8_ n9_
                    clear hb hbox hg
                    refine hK.out _ _ trivial (fun hHeld => ?_)
                    clear hK K
                    refine norm_ (a' := ?_) ?_ ?_
                    rotate_left
                    · show Act.put _ (some 9) _ = _
                      simp only [Act.put, List.setIfInBounds_toArray, List.set_cons_zero, List.set_cons_succ, i64_w, i32_w]
                      rfl
                    refine one_ (i := 1) (N := some 47) #[true, true, true, true, true, false, false, false, false, true, false, false] rfl rfl (one_of HT_.out (by kernel_rfl)) (by decide) (fun K hK => ?_)
                    refine goes_ Try.func22 (by kernel_rfl) rfl #[.slice A0 l0.length c0] (by rfl) rfl rfl (by (try simp only [List.map_toArray, List.map_cons, List.map_nil]); first | done | rfl | (simp only [List.length_drop, List.length_take]; rfl)) ?_
                    with_reducible refine (comfitlaw04_list.calls _ _ l0 t530 _ ?side1 ?side2 A23.out).mono ?_
                    (case side1 => repeat (first | exact (Kd.C_below HR0.out HB.out) | (with_reducible refine Kd.C_alloc ?_ _) | (with_reducible refine Kd.C_drewN ?_ _) | (with_reducible refine Kd.C_drew ?_)))
                    (case side2 => exact HC0.out)
                    rintro e w30 ⟨v531, rfl, ho0, hb⟩
                    refine ⟨_, rfl, ?_⟩
                    have n0_ := Aside0.mk (Kd.R_lower ho0 (below_size (by repeat (first | (with_reducible first | exact HB.out | apply below_alloc | apply pw_below_drewN | apply below_drew1 | refine below_set ?_ GE526.out | refine below_set ?_ GE529.out | refine below_set ?_ GE536.out) | exact HB.out))))
                    have n1_ := Aside0.mk (blk_below (g := gb526) (o := .cells #[.int .i64 t523, .int .i64 t524] 25 (0, 0)) (by (with_reducible repeat (first | refine blk_drewN ?_ _ | refine blk_drew ?_ | refine blk_alloc ?_ _)); exact BK526.out) hb)
                    have n2_ := Aside0.mk (blk_below (g := gb529) (o := .cells #[.int .i64 x530000_2, .int .i64 x530001_2] 25 (0, 0)) (by (with_reducible repeat (first | refine blk_drewN ?_ _ | refine blk_drew ?_ | refine blk_alloc ?_ _)); exact BK529.out) hb)
                    have n3_ := Aside0.mk (blk_below (g := gb536) (o := .cells #[.int .i64 0, .int .i64 0] 25 (0, 0)) (by (with_reducible repeat (first | refine blk_drewN ?_ _ | refine blk_drew ?_ | refine blk_alloc ?_ _)); exact BK536.out) hb)
                    have n4_ := Aside0.mk (below_step (by repeat (first | (with_reducible first | exact HB.out | apply below_alloc | apply pw_below_drewN | apply below_drew1 | refine below_set ?_ GE526.out | refine below_set ?_ GE529.out | refine below_set ?_ GE536.out) | exact HB.out)) hb)
                    clear BK526
                    clear BK529
                    clear BK536
                    clear HB
                    have HO532 := n0_
                    have BK526 := n1_
                    have BK529 := n2_
                    have BK536 := n3_
                    have HB := n4_
                    clear n0_ n1_ n2_ n3_ n4_
                    (try clear hb)
                    (try clear hb2)
                    (try clear hk)
                    (try clear hi)
                    (try clear ho0)
                    obtain ⟨Ao31, co31, eo31⟩ := Kd.R_slice HO532.out
                    (first | subst eo31 | (injection eo31 with f1_ f2_ f3_; have f4_ := f1_.symm; have f5_ := f3_.symm; clear f1_ f2_ f3_; subst f4_; subst f5_))
                    refine hK.out _ _ trivial (fun hHeld => ?_)
                    clear hK K
                    refine norm_ (a' := ?_) ?_ ?_
                    rotate_left
                    · show Act.put _ (some 47) _ = _
                      simp only [Act.put, List.setIfInBounds_toArray, List.set_cons_zero, List.set_cons_succ, i64_w, i32_w]
                      rfl
                    refine one_ (i := 5) (N := some 51) #[true, true, true, true, true, true, false, false, false, true, false, false] rfl rfl (one_of HT_.out (by kernel_rfl)) (by decide) (fun K hK => ?_)
                    refine goes_ Try.func37 (by kernel_rfl) rfl #[.slice Ao31 t530.length co31, .int .i64 ji25, .int .i64 a1] (by rfl) rfl rfl (by (try simp only [List.map_toArray, List.map_cons, List.map_nil]); first | done | (simp only [hji25]; rfl) | rfl | (simp only [List.length_drop, List.length_take]; rfl)) ?_
                    with_reducible refine (packets_Done.calls k2 _ _ t530 ji25 a1 t533 t534 t535 _ ?side1 ?side2 A26.out).mono ?_
                    (case side1 => repeat (first | exact (Kd.R_reads' HO532.out).2.2 | (with_reducible refine Kd.C_alloc ?_ _) | (with_reducible refine Kd.C_drewN ?_ _) | (with_reducible refine Kd.C_drew ?_)))
                    (case side2 => exact (Kd.R_reads' HO532.out).2.1)
                    rintro e w32 ⟨rfl, hb⟩
                    refine ⟨_, rfl, ?_⟩
                    have n0_ := Aside0.mk (Kd.R_below (by (with_reducible repeat (first | apply Kd.R_alloc | apply Kd.R_drewN | apply Kd.R_drew)); exact HO532.out) hb)
                    have n1_ := Aside0.mk (blk_below (g := gb526) (o := .cells #[.int .i64 t523, .int .i64 t524] 25 (0, 0)) (by (with_reducible repeat (first | refine blk_drewN ?_ _ | refine blk_drew ?_ | refine blk_alloc ?_ _)); exact BK526.out) hb)
                    have n2_ := Aside0.mk (blk_below (g := gb529) (o := .cells #[.int .i64 x530000_2, .int .i64 x530001_2] 25 (0, 0)) (by (with_reducible repeat (first | refine blk_drewN ?_ _ | refine blk_drew ?_ | refine blk_alloc ?_ _)); exact BK529.out) hb)
                    have n3_ := Aside0.mk (blk_below (g := gb536) (o := .cells #[.int .i64 0, .int .i64 0] 25 (0, 0)) (by (with_reducible repeat (first | refine blk_drewN ?_ _ | refine blk_drew ?_ | refine blk_alloc ?_ _)); exact BK536.out) hb)
                    have n4_ := Aside0.mk (below_step (by repeat (first | (with_reducible first | exact HB.out | apply below_alloc | apply pw_below_drewN | apply below_drew1 | refine below_set ?_ GE526.out | refine below_set ?_ GE529.out | refine below_set ?_ GE536.out) | exact HB.out)) hb)
                    clear HO532
                    clear BK526
                    clear BK529
                    clear BK536
                    clear HB
                    have HO532 := n0_
                    have BK526 := n1_
                    have BK529 := n2_
                    have BK536 := n3_
                    have HB := n4_
                    clear n0_ n1_ n2_ n3_ n4_
                    (try clear hb)
                    (try clear hb2)
                    (try clear hk)
                    (try clear hi)
                    refine hK.out _ _ trivial (fun hHeld => ?_)
                    clear hK K
                    refine norm_ (a' := ?_) ?_ ?_
                    rotate_left
                    · show Act.put _ (some 51) _ = _
                      simp only [Act.put, List.setIfInBounds_toArray, List.set_cons_zero, List.set_cons_succ, i64_w, i32_w]
                      rfl
                    refine pure_ (i := 6) (N := some 45) (v := ?_) (a' := ?_) #[true, true, true, true, true, true, true, false, false, true, false, false] rfl rfl (any_of HT_.out (by kernel_rfl)) (fun _ _ _ h => h) (Or.inl ⟨by rfl, ?_⟩) ?_ ?_
                    rotate_left
                    · intro w'
                      go_simp
                      with_reducible rfl
                    rotate_left
                    · simp only [Act.put, List.setIfInBounds_toArray, List.set_cons_zero, List.set_cons_succ, i64_w, i32_w]
                      rfl
                    refine pure_ (i := 7) (N := some 52) (v := ?_) (a' := ?_) #[true, true, true, true, true, true, true, true, false, true, false, false] rfl rfl (any_of HT_.out (by kernel_rfl)) (fun _ _ _ h => h) (Or.inl ⟨by rfl, ?_⟩) ?_ ?_
                    rotate_left
                    · intro w'
                      go_simp
                      with_reducible rfl
                    rotate_left
                    · simp only [Act.put, List.setIfInBounds_toArray, List.set_cons_zero, List.set_cons_succ, i64_w, i32_w]
                      rfl
                    refine pure_ (i := 8) (N := some 53) (v := ?_) (a' := ?_) #[true, true, true, true, true, true, true, true, true, true, false, false] rfl rfl (any_of HT_.out (by kernel_rfl)) (fun _ _ _ h => h) (Or.inl ⟨by rfl, ?_⟩) ?_ ?_
                    rotate_left
                    · intro w'
                      go_simp
                      with_reducible rfl
                    rotate_left
                    · simp only [Act.put, List.setIfInBounds_toArray, List.set_cons_zero, List.set_cons_succ, i64_w, i32_w]
                      rfl
                    exact norm_ (by simp only [putAll, Act.put, List.setIfInBounds_toArray, List.set_cons_zero, List.set_cons_succ]) (hCont (.slice Ao31 t530.length co31, gb536) _ ⟨(by (with_reducible repeat (first | apply Kd.R_alloc | apply Kd.R_drewN | apply Kd.R_drew)); exact HO532.out), (by (with_reducible repeat (first | refine blk_drewN ?_ _ | refine blk_drew ?_ | refine blk_alloc ?_ _)); exact BK526.out), (by (with_reducible repeat (first | refine blk_drewN ?_ _ | refine blk_drew ?_ | refine blk_alloc ?_ _)); exact BK529.out), (by (with_reducible repeat (first | refine blk_drewN ?_ _ | refine blk_drew ?_ | refine blk_alloc ?_ _)); exact BK536.out), GW536.out, GE536.out, NB526_536.out, NB536_526.out, NB529_536.out, NB536_529.out, (by repeat (first | (with_reducible first | exact HB.out | apply below_alloc | apply pw_below_drewN | apply below_drew1 | refine below_set ?_ GE526.out | refine below_set ?_ GE529.out | refine below_set ?_ GE536.out) | exact HB.out))⟩)
                rintro ⟨v531, gb536⟩ w33 ⟨h0_, h1_, h2_, h3_, h4_, h5_, h6_, h7_, h8_, h9_, h10_⟩
                have n0_ : Aside0 (Kd.R (Kd.int .i64) 3 w33 w.heap.size (fun _ => True) v531 t530) := ⟨h0_⟩
                have n1_ : Aside0 (w33.heap[gb526]? = some (.cells #[.int .i64 t523, .int .i64 t524] 25 (0, 0))) := ⟨h1_⟩
                have n2_ : Aside0 (w33.heap[gb529]? = some (.cells #[.int .i64 x530000_2, .int .i64 x530001_2] 25 (0, 0))) := ⟨h2_⟩
                have n3_ : Aside0 (w33.heap[gb536]? = some (.cells #[.int .i64 0, .int .i64 0] 25 (0, 0))) := ⟨h3_⟩
                have n4_ : Aside0 (w.heap.size ≤ gb536) := ⟨h4_⟩
                have n5_ : Aside0 (w.heap.size ≤ gb536) := ⟨h5_⟩
                have n6_ : Aside0 (gb526 ≠ gb536) := ⟨h6_⟩
                have n7_ : Aside0 (gb536 ≠ gb526) := ⟨h7_⟩
                have n8_ : Aside0 (gb529 ≠ gb536) := ⟨h8_⟩
                have n9_ : Aside0 (gb536 ≠ gb529) := ⟨h9_⟩
                have n10_ : Aside0 (Below w.heap.size w w33) := ⟨h10_⟩
                clear BK526
                clear BK529
                clear HB
                clear h0_ h1_ h2_ h3_ h4_ h5_ h6_ h7_ h8_ h9_ h10_
                have HO532 := n0_
                have BK526 := n1_
                have BK529 := n2_
                have BK536 := n3_
                have GW536 := n4_
                have GE536 := n5_
                have NB526_536 := n6_
                have NB536_526 := n7_
                have NB529_536 := n8_
                have NB536_529 := n9_
                have HB := n10_
                clear n0_ n1_ n2_ n3_ n4_ n5_ n6_ n7_ n8_ n9_ n10_
                have hHeld := trivial
                refine norm_ (a' := ?_) ?_ ?_
                rotate_left
                · simp only [putAll, Act.put, List.setIfInBounds_toArray, List.set_cons_zero, List.set_cons_succ]
                  rfl
                refine one_ (i := 10) (N := none) #[true, true, true, true, true, true, true, true, true, true, true, false] rfl rfl (one_of HT_.out (by kernel_rfl)) (by decide) (fun K hK => ?_)
                have hs34 : w33.cell? ⟨gb536, 0, none⟩ = some (.int .i64 0) := (blk_cell BK536.out 0).trans rfl
                have hfs34 := blk_frozen BK536.out 0
                have hns34_0 := NB526_536.out
                have hns34_1 := NB529_536.out
                have hms34_0 := NB536_526.out
                have hms34_1 := NB536_529.out
                have hs35 : w33.cell? ⟨gb536, 1, none⟩ = some (.int .i64 0) := (blk_cell BK536.out 1).trans rfl
                have hfs35 := blk_frozen BK536.out 1
                have hns35_0 := NB526_536.out
                have hns35_1 := NB529_536.out
                have hms35_0 := NB536_526.out
                have hms35_1 := NB536_529.out
                refine skip_ (w1 := ?_) (by rfl) rfl ?_ ?_
                rotate_left
                · go_simp
                  rfl
                refine hK.out _ _ trivial (fun hHeld => ?_)
                clear hK K
                refine pure_ (i := 11) (N := some 10) (v := ?_) (a' := ?_) #[true, true, true, true, true, true, true, true, true, true, true, true] rfl rfl (any_of HT_.out (by kernel_rfl)) (fun _ _ _ h => h) (Or.inl ⟨by rfl, ?_⟩) ?_ ?_
                rotate_left
                · intro w'
                  go_simp
                  with_reducible rfl
                rotate_left
                · simp only [Act.put, List.setIfInBounds_toArray, List.set_cons_zero, List.set_cons_succ, i64_w, i32_w]
                  rfl
                refine done_ (done_of HT_.out (by kernel_rfl)) ?_
                go_upto_region 9 with (fail)
                go_cut [60] (fun v60 wc => ∃ (kq : Nat) (x60_26 : Bool), v60 = .bool x60_26 ∧ Aside0 (comfitlaw04_PacketsCount.j2 kq l0 a1 (l0.length : Int) x42_2 x60_26 t523 t524 x530000_2 x530001_2 t533 t534 = some r) ∧ Aside0 (kq ≤ k2) ∧ Aside0 (wc.heap[gb526]? = some (.cells #[.int .i64 t523, .int .i64 t524] 25 (0, 0))) ∧ Aside0 (wc.heap[gb529]? = some (.cells #[.int .i64 x530000_2, .int .i64 x530001_2] 25 (0, 0))) ∧ Aside0 (wc.heap[gb536]? = some (.cells #[.int .i64 t533, .int .i64 t534] 25 (0, 0))) ∧ Aside0 (Below w.heap.size w wc))
                case first =>
                  have H := HC27.out
                  clear HC27
                  by_cases c36 : t535 = 0
                  · rw [if_pos c36] at H
                    have c36b0 : (t535 == 0) = true := beq_iff_eq.mpr c36
                    have c36b1 : (t535 != 0) = false := bne_eq_false_iff_eq.mpr c36
                    clear c36
                    (first | rw [c36b0] | (simp only [i64_w, i32_w]; rw [c36b0]) | skip)
                    replace H := Option.bind_eq_some_iff.mp H
                    obtain ⟨t537, A370, H⟩ := H
                    replace H : (comfitlaw04_PacketsCount.j2 k2 l0 a1 (l0.length : Int) x42_2 (!t537) t523 t524 x530000_2 x530001_2 t533 t534) = some r := H
                    have A37 := Aside0.mk A370
                    clear A370
                    have H' := Aside0.mk H
                    clear H
                    have hnb38 := NB536_526.out
                    have hnc38 := NB526_536.out
                    have hnb39 := NB536_529.out
                    have hnc39 := NB529_536.out
                    have hcz40_0 : w33.cell? ⟨gb536, 0, none⟩ = some (.int .i64 0) := (blk_cell BK536.out 0).trans rfl
                    have hcz40_1 : w33.cell? ⟨gb536, 1, none⟩ = some (.int .i64 0) := (blk_cell BK536.out 1).trans rfl
                    have hfz40_0 := blk_frozen BK536.out 0
                    have hfz40_1 := blk_frozen BK536.out 1
                    go_wp2_with (first | (go_at_call 19; (with_reducible refine (comfitlaw04_right.calls t533 t534 1 t537 _ A37.out).mono ?_); rintro e w41 ⟨rfl, hb⟩; have n0_ := Aside0.mk (Kd.R_below (by (with_reducible repeat (first | apply Kd.R_alloc | apply Kd.R_drewN | apply Kd.R_drew)); exact (Kd.R_mono (Kd.R_far (p := ⟨gb536, 1, none⟩) (Kd.R_far (p := ⟨gb536, 0, none⟩) (Kd.R_types HO532.out BK536.out (by decide)) (fun _ hk => hk.2) (.int .i64 t533)) (fun _ hk => hk.2) (.int .i64 t534)) (fun _ h_ => h_.1))) hb); have n1_ := Aside0.mk (blk_below (g := gb526) (o := .cells #[.int .i64 t523, .int .i64 t524] 25 (0, 0)) (by (with_reducible repeat (first | refine blk_drewN ?_ _ | refine blk_drew ?_ | refine blk_alloc ?_ _)); refine blk_far ?_ NB526_536.out _; (with_reducible repeat (first | refine blk_drewN ?_ _ | refine blk_drew ?_ | refine blk_alloc ?_ _)); refine blk_far ?_ NB526_536.out _; (with_reducible repeat (first | refine blk_drewN ?_ _ | refine blk_drew ?_ | refine blk_alloc ?_ _)); exact BK526.out) hb); have n2_ := Aside0.mk (blk_below (g := gb529) (o := .cells #[.int .i64 x530000_2, .int .i64 x530001_2] 25 (0, 0)) (by (with_reducible repeat (first | refine blk_drewN ?_ _ | refine blk_drew ?_ | refine blk_alloc ?_ _)); refine blk_far ?_ NB529_536.out _; (with_reducible repeat (first | refine blk_drewN ?_ _ | refine blk_drew ?_ | refine blk_alloc ?_ _)); refine blk_far ?_ NB529_536.out _; (with_reducible repeat (first | refine blk_drewN ?_ _ | refine blk_drew ?_ | refine blk_alloc ?_ _)); exact BK529.out) hb); have n3_ := Aside0.mk (blk_below (g := gb536) (o := .cells #[.int .i64 t533, .int .i64 t534] 25 (0, 0)) (by (with_reducible repeat (first | refine blk_drewN ?_ _ | refine blk_drew ?_ | refine blk_alloc ?_ _)); refine blk_put (cs := #[.int .i64 t533, .int .i64 0]) ?_ 1 _ rfl; (with_reducible repeat (first | refine blk_drewN ?_ _ | refine blk_drew ?_ | refine blk_alloc ?_ _)); refine blk_put (cs := #[.int .i64 0, .int .i64 0]) ?_ 0 _ rfl; (with_reducible repeat (first | refine blk_drewN ?_ _ | refine blk_drew ?_ | refine blk_alloc ?_ _)); exact BK536.out) hb); have n4_ := Aside0.mk (below_step (by repeat (first | (with_reducible first | exact HB.out | apply below_alloc | apply pw_below_drewN | apply below_drew1 | refine below_set ?_ GE526.out | refine below_set ?_ GE529.out | refine below_set ?_ GE536.out) | exact HB.out)) hb); clear HO532; clear BK526; clear BK529; clear BK536; clear HB; have HO532 := n0_; have BK526 := n1_; have BK529 := n2_; have BK536 := n3_; have HB := n4_; clear n0_ n1_ n2_ n3_ n4_; (try clear hb); (try clear hb2); (try clear hk); (try clear hi)))
                    go_meet
                    case rel => exact ⟨_, (!t537), (by first | rfl | (simp; done) | (simp [*]; done)), H', ⟨by have := HJ4.out; have := HK2.out; first | omega | exact Nat.le_refl _⟩, ⟨by (with_reducible repeat (first | refine blk_drewN ?_ _ | refine blk_drew ?_ | refine blk_alloc ?_ _)); exact BK526.out⟩, ⟨by (with_reducible repeat (first | refine blk_drewN ?_ _ | refine blk_drew ?_ | refine blk_alloc ?_ _)); exact BK529.out⟩, ⟨by (with_reducible repeat (first | refine blk_drewN ?_ _ | refine blk_drew ?_ | refine blk_alloc ?_ _)); exact BK536.out⟩, ⟨by repeat (first | (with_reducible first | exact HB.out | apply below_alloc | apply pw_below_drewN | apply below_drew1 | refine below_set ?_ GE526.out | refine below_set ?_ GE529.out | refine below_set ?_ GE536.out) | exact HB.out)⟩⟩
                  · rw [if_neg c36] at H
                    have c36b0 : (t535 == 0) = false := beq_eq_false_iff_ne.mpr c36
                    have c36b1 : (t535 != 0) = true := bne_iff_ne.mpr c36
                    (first | rw [c36b0] | (simp only [i64_w, i32_w]; rw [c36b0]) | skip)
                    have H' := Aside0.mk H
                    clear H
                    go_wp2
                    go_meet
                    case rel => exact ⟨_, (true), (by first | rfl | (simp; done) | (simp [*]; done)), H', ⟨by have := HJ4.out; have := HK2.out; first | omega | exact Nat.le_refl _⟩, ⟨by (with_reducible repeat (first | refine blk_drewN ?_ _ | refine blk_drew ?_ | refine blk_alloc ?_ _)); refine blk_far ?_ NB526_536.out _; (with_reducible repeat (first | refine blk_drewN ?_ _ | refine blk_drew ?_ | refine blk_alloc ?_ _)); refine blk_far ?_ NB526_536.out _; (with_reducible repeat (first | refine blk_drewN ?_ _ | refine blk_drew ?_ | refine blk_alloc ?_ _)); exact BK526.out⟩, ⟨by (with_reducible repeat (first | refine blk_drewN ?_ _ | refine blk_drew ?_ | refine blk_alloc ?_ _)); refine blk_far ?_ NB529_536.out _; (with_reducible repeat (first | refine blk_drewN ?_ _ | refine blk_drew ?_ | refine blk_alloc ?_ _)); refine blk_far ?_ NB529_536.out _; (with_reducible repeat (first | refine blk_drewN ?_ _ | refine blk_drew ?_ | refine blk_alloc ?_ _)); exact BK529.out⟩, ⟨by (with_reducible repeat (first | refine blk_drewN ?_ _ | refine blk_drew ?_ | refine blk_alloc ?_ _)); refine blk_put (cs := #[.int .i64 t533, .int .i64 0]) ?_ 1 _ rfl; (with_reducible repeat (first | refine blk_drewN ?_ _ | refine blk_drew ?_ | refine blk_alloc ?_ _)); refine blk_put (cs := #[.int .i64 0, .int .i64 0]) ?_ 0 _ rfl; (with_reducible repeat (first | refine blk_drewN ?_ _ | refine blk_drew ?_ | refine blk_alloc ?_ _)); exact BK536.out⟩, ⟨by repeat (first | (with_reducible first | exact HB.out | apply below_alloc | apply pw_below_drewN | apply below_drew1 | refine below_set ?_ GE526.out | refine below_set ?_ GE529.out | refine below_set ?_ GE536.out) | exact HB.out)⟩⟩
                case rest =>
                  clear HC27
                  try clear c1
                  try clear c2
                  try clear p2
                  try clear c3
                  try clear p6
                  try clear c11
                  try clear c11b0
                  try clear c11b1
                  try clear c12
                  try clear c13
                  try clear c14
                  try clear c14b0
                  try clear c15
                  try clear c16
                  try clear c16b0
                  try clear c16b1
                  try clear c20
                  try clear c22
                  try clear c22b0
                  try clear c24
                  try clear c24b0
                  try clear c24b1
                  try clear c36
                  try clear c36b0
                  try clear c36b1
                  try clear c37
                  try clear c38
                  try clear c39
                  try clear hcz10_0
                  try clear hcz10_1
                  try clear hcz21_0
                  try clear hcz21_1
                  try clear hcz40_0
                  try clear hcz40_1
                  try clear hfz10_0
                  try clear hfz10_1
                  try clear hfz21_0
                  try clear hfz21_1
                  try clear hfz40_0
                  try clear hfz40_1
                  try clear p2
                  obtain ⟨kq, x60_26, rfl, HA, HJ26, BK526, BK529, BK536, HB⟩ := hcut
                  cases kq with
                  | zero => exact absurd HA.out (by simp [comfitlaw04_PacketsCount.j2])
                  | succ kj26 =>
                    have H := HA.out
                    clear HA
                    simp only [comfitlaw04_PacketsCount.j2] at H
                    by_cases c42 : x60_26 = true
                    · subst c42
                      have H1 : (some false) = some r := by rw [if_pos rfl] at H; exact H
                      clear H
                      have H := H1
                      clear H1
                      obtain rfl := Option.some.inj H
                      go_wp2
                      go_ret
                      exact ⟨by first | rfl | (simp [errW_none, errW_some] <;> rfl) | (simp only [← hji25]; first | rfl | (simp [errW_none, errW_some] <;> rfl)) | (simp [*, errW_none, errW_some] <;> rfl), by repeat (first | (with_reducible first | exact HB.out | apply below_alloc | apply pw_below_drewN | apply below_drew1 | refine below_set ?_ GE526.out | refine below_set ?_ GE529.out | refine below_set ?_ GE536.out) | exact HB.out)⟩
                    · replace c42 := Bool.eq_false_iff.mpr c42
                      subst c42
                      have H1 : ((comfitlaw04_added.f kj26 x530000_2 x530001_2 t533 t534 false).bind fun bt538 => (if bt538.2.2 = true then (comfitlaw04_PacketsCount.l0 kj26 l0 a1 (l0.length : Int) (wrap64 (x42_2 + 1)) t523 t524 bt538.1 bt538.2.1) else (some false))) = some r := by rw [if_neg (show ¬ (false = true) by decide)] at H; exact H
                      clear H
                      have H := H1
                      clear H1
                      replace H := Option.bind_eq_some_iff.mp H
                      obtain ⟨⟨t538, t539, t540⟩, A430, H⟩ := H
                      replace H : (if t540 = true then (comfitlaw04_PacketsCount.l0 kj26 l0 a1 (l0.length : Int) (wrap64 (x42_2 + 1)) t523 t524 t538 t539) else (some false)) = some r := H
                      have A43 := Aside0.mk A430
                      clear A430
                      by_cases c44 : t540 = true
                      · subst c44
                        have H1 : (comfitlaw04_PacketsCount.l0 kj26 l0 a1 (l0.length : Int) (wrap64 (x42_2 + 1)) t523 t524 t538 t539) = some r := by rw [if_pos rfl] at H; exact H
                        clear H
                        have H := H1
                        clear H1
                        have H' := Aside0.mk H
                        clear H
                        have hnb45 := NB529_526.out
                        have hnc45 := NB526_529.out
                        have hnb46 := NB529_536.out
                        have hnc46 := NB536_529.out
                        have hcz47_0 : wc.cell? ⟨gb529, 0, none⟩ = some (.int .i64 x530000_2) := (blk_cell BK529.out 0).trans rfl
                        have hcz47_1 : wc.cell? ⟨gb529, 1, none⟩ = some (.int .i64 x530001_2) := (blk_cell BK529.out 1).trans rfl
                        have hfz47_0 := blk_frozen BK529.out 0
                        have hfz47_1 := blk_frozen BK529.out 1
                        have hnb48 := NB536_526.out
                        have hnc48 := NB526_536.out
                        have hcz49_0 : wc.cell? ⟨gb536, 0, none⟩ = some (.int .i64 t533) := (blk_cell BK536.out 0).trans rfl
                        have hcz49_1 : wc.cell? ⟨gb536, 1, none⟩ = some (.int .i64 t534) := (blk_cell BK536.out 1).trans rfl
                        have hfz49_0 := blk_frozen BK536.out 0
                        have hfz49_1 := blk_frozen BK536.out 1
                        go_wp2_with (first | ((with_reducible refine gate_callee (f := 24) rfl ?_); refine goesL_ (some 64) rfl rfl Try.func24 (by kernel_rfl) rfl #[.agg #[.int .i64 x530000_2, .int .i64 x530001_2], .agg #[.int .i64 t533, .int .i64 t534], .bool false] rfl (by (try simp only [List.map_toArray, List.map_cons, List.map_nil]); first | done | rfl | (simp only [List.length_drop, List.length_take]; rfl)) ?_; (with_reducible refine (comfitlaw04_added.calls kj26 x530000_2 x530001_2 t533 t534 false t538 t539 true _ A43.out).mono ?_); rintro e w50 ⟨rfl, hb⟩; refine ⟨_, rfl, ?_⟩; have n0_ := Aside0.mk (blk_below (g := gb526) (o := .cells #[.int .i64 t523, .int .i64 t524] 25 (0, 0)) (by (with_reducible repeat (first | refine blk_drewN ?_ _ | refine blk_drew ?_ | refine blk_alloc ?_ _)); exact BK526.out) hb); have n1_ := Aside0.mk (blk_below (g := gb529) (o := .cells #[.int .i64 x530000_2, .int .i64 x530001_2] 25 (0, 0)) (by (with_reducible repeat (first | refine blk_drewN ?_ _ | refine blk_drew ?_ | refine blk_alloc ?_ _)); exact BK529.out) hb); have n2_ := Aside0.mk (blk_below (g := gb536) (o := .cells #[.int .i64 t533, .int .i64 t534] 25 (0, 0)) (by (with_reducible repeat (first | refine blk_drewN ?_ _ | refine blk_drew ?_ | refine blk_alloc ?_ _)); exact BK536.out) hb); have n3_ := Aside0.mk (below_step (by repeat (first | (with_reducible first | exact HB.out | apply below_alloc | apply pw_below_drewN | apply below_drew1 | refine below_set ?_ GE526.out | refine below_set ?_ GE529.out | refine below_set ?_ GE536.out) | exact HB.out)) hb); clear BK526; clear BK529; clear BK536; clear HB; have BK526 := n0_; have BK529 := n1_; have BK536 := n2_; have HB := n3_; clear n0_ n1_ n2_ n3_; (try clear hb); (try clear hb2); (try clear hk); (try clear hi); have hcz51_0 : w50.cell? ⟨gb529, 0, none⟩ = some (.int .i64 x530000_2) := (blk_cell BK529.out 0).trans rfl; have hcz51_1 : w50.cell? ⟨gb529, 1, none⟩ = some (.int .i64 x530001_2) := (blk_cell BK529.out 1).trans rfl; have hfz51_0 := blk_frozen BK529.out 0; have hfz51_1 := blk_frozen BK529.out 1))
                        go_roundg kj26
                        case measure => have := HJ4.out; have := HK2.out; have := HJ26.out; omega
                        case rel => exact ⟨(wrap64 (x42_2 + 1)), (t538), (t539), (by first | rfl | (simp; done) | (simp [*]; done)), H', ⟨by have := HJ4.out; have := HK2.out; have := HJ26.out; omega⟩, ⟨by (with_reducible repeat (first | refine blk_drewN ?_ _ | refine blk_drew ?_ | refine blk_alloc ?_ _)); refine blk_far ?_ NB526_529.out _; (with_reducible repeat (first | refine blk_drewN ?_ _ | refine blk_drew ?_ | refine blk_alloc ?_ _)); refine blk_far ?_ NB526_529.out _; (with_reducible repeat (first | refine blk_drewN ?_ _ | refine blk_drew ?_ | refine blk_alloc ?_ _)); exact BK526.out⟩, ⟨by (with_reducible repeat (first | refine blk_drewN ?_ _ | refine blk_drew ?_ | refine blk_alloc ?_ _)); refine blk_put (cs := #[.int .i64 t538, .int .i64 x530001_2]) ?_ 1 _ rfl; (with_reducible repeat (first | refine blk_drewN ?_ _ | refine blk_drew ?_ | refine blk_alloc ?_ _)); refine blk_put (cs := #[.int .i64 x530000_2, .int .i64 x530001_2]) ?_ 0 _ rfl; (with_reducible repeat (first | refine blk_drewN ?_ _ | refine blk_drew ?_ | refine blk_alloc ?_ _)); exact BK529.out⟩, ⟨by repeat (first | (with_reducible first | exact HB.out | apply below_alloc | apply pw_below_drewN | apply below_drew1 | refine below_set ?_ GE526.out | refine below_set ?_ GE529.out | refine below_set ?_ GE536.out) | exact HB.out)⟩⟩
                      · replace c44 := Bool.eq_false_iff.mpr c44
                        subst c44
                        have H1 : (some false) = some r := by rw [if_neg (show ¬ (false = true) by decide)] at H; exact H
                        clear H
                        have H := H1
                        clear H1
                        obtain rfl := Option.some.inj H
                        have hnb52 := NB529_526.out
                        have hnc52 := NB526_529.out
                        have hnb53 := NB529_536.out
                        have hnc53 := NB536_529.out
                        have hcz54_0 : wc.cell? ⟨gb529, 0, none⟩ = some (.int .i64 x530000_2) := (blk_cell BK529.out 0).trans rfl
                        have hcz54_1 : wc.cell? ⟨gb529, 1, none⟩ = some (.int .i64 x530001_2) := (blk_cell BK529.out 1).trans rfl
                        have hfz54_0 := blk_frozen BK529.out 0
                        have hfz54_1 := blk_frozen BK529.out 1
                        have hnb55 := NB536_526.out
                        have hnc55 := NB526_536.out
                        have hcz56_0 : wc.cell? ⟨gb536, 0, none⟩ = some (.int .i64 t533) := (blk_cell BK536.out 0).trans rfl
                        have hcz56_1 : wc.cell? ⟨gb536, 1, none⟩ = some (.int .i64 t534) := (blk_cell BK536.out 1).trans rfl
                        have hfz56_0 := blk_frozen BK536.out 0
                        have hfz56_1 := blk_frozen BK536.out 1
                        go_wp2_with (first | ((with_reducible refine gate_callee (f := 24) rfl ?_); refine goesL_ (some 64) rfl rfl Try.func24 (by kernel_rfl) rfl #[.agg #[.int .i64 x530000_2, .int .i64 x530001_2], .agg #[.int .i64 t533, .int .i64 t534], .bool false] rfl (by (try simp only [List.map_toArray, List.map_cons, List.map_nil]); first | done | rfl | (simp only [List.length_drop, List.length_take]; rfl)) ?_; (with_reducible refine (comfitlaw04_added.calls kj26 x530000_2 x530001_2 t533 t534 false t538 t539 false _ A43.out).mono ?_); rintro e w57 ⟨rfl, hb⟩; refine ⟨_, rfl, ?_⟩; have n0_ := Aside0.mk (blk_below (g := gb526) (o := .cells #[.int .i64 t523, .int .i64 t524] 25 (0, 0)) (by (with_reducible repeat (first | refine blk_drewN ?_ _ | refine blk_drew ?_ | refine blk_alloc ?_ _)); exact BK526.out) hb); have n1_ := Aside0.mk (blk_below (g := gb529) (o := .cells #[.int .i64 x530000_2, .int .i64 x530001_2] 25 (0, 0)) (by (with_reducible repeat (first | refine blk_drewN ?_ _ | refine blk_drew ?_ | refine blk_alloc ?_ _)); exact BK529.out) hb); have n2_ := Aside0.mk (blk_below (g := gb536) (o := .cells #[.int .i64 t533, .int .i64 t534] 25 (0, 0)) (by (with_reducible repeat (first | refine blk_drewN ?_ _ | refine blk_drew ?_ | refine blk_alloc ?_ _)); exact BK536.out) hb); have n3_ := Aside0.mk (below_step (by repeat (first | (with_reducible first | exact HB.out | apply below_alloc | apply pw_below_drewN | apply below_drew1 | refine below_set ?_ GE526.out | refine below_set ?_ GE529.out | refine below_set ?_ GE536.out) | exact HB.out)) hb); clear BK526; clear BK529; clear BK536; clear HB; have BK526 := n0_; have BK529 := n1_; have BK536 := n2_; have HB := n3_; clear n0_ n1_ n2_ n3_; (try clear hb); (try clear hb2); (try clear hk); (try clear hi); have hcz58_0 : w57.cell? ⟨gb529, 0, none⟩ = some (.int .i64 x530000_2) := (blk_cell BK529.out 0).trans rfl; have hcz58_1 : w57.cell? ⟨gb529, 1, none⟩ = some (.int .i64 x530001_2) := (blk_cell BK529.out 1).trans rfl; have hfz58_0 := blk_frozen BK529.out 0; have hfz58_1 := blk_frozen BK529.out 1))
                        go_ret
                        exact ⟨by first | rfl | (simp [errW_none, errW_some] <;> rfl) | (simp only [← hji25]; first | rfl | (simp [errW_none, errW_some] <;> rfl)) | (simp [*, errW_none, errW_some] <;> rfl), by repeat (first | (with_reducible first | exact HB.out | apply below_alloc | apply pw_below_drewN | apply below_drew1 | refine below_set ?_ GE526.out | refine below_set ?_ GE529.out | refine below_set ?_ GE536.out) | exact HB.out)⟩
              · rw [if_neg c24] at H
                exact absurd H (by simp)
            · rw [if_neg c22] at H
              have c22b0 : decide (x42_2 < (l0.length : Int)) = false := decide_eq_false c22
              clear c22
              by_cases c59 : (t523 == x530000_2 && (t524 == x530001_2)) = true
              · rw [if_pos c59] at H
                have c59b0 : (t523 == x530000_2 && (t524 == x530001_2)) = true := c59
                (try (have c59b1 : decide (t523 = x530000_2 && (t524 == x530001_2)) = true := by simpa using c59))
                (try (have c59b2 : (t523 == x530000_2 && (t524 == x530001_2)) = true := by simpa using c59))
                clear c59
                obtain ⟨ji60, hji60⟩ : ∃ j_ : Int, (mn (l0.length : Int) a1) = j_ := ⟨_, rfl⟩
                replace H : ((comfitlaw04_right.f t523 t524 (ji60)).bind fun t541 => (if t541 = true then ((comfitlaw04_awake.f k2).bind fun t542 => (some t542)) else (some false))) = some r := by first | (rw [hji60] at H; exact H) | (simp only [hji60] at H ⊢; exact H)
                have hji60_ : (if a1 < (l0.length : Int) then a1 else (l0.length : Int)) = ji60 := hji60
                replace H := Option.bind_eq_some_iff.mp H
                obtain ⟨t541, A610, H⟩ := H
                replace H : (if t541 = true then ((comfitlaw04_awake.f k2).bind fun t542 => (some t542)) else (some false)) = some r := H
                have A61 := Aside0.mk A610
                clear A610
                by_cases c62 : t541 = true
                · subst c62
                  have H1 : ((comfitlaw04_awake.f k2).bind fun t542 => (some t542)) = some r := by rw [if_pos rfl] at H; exact H
                  clear H
                  have H := H1
                  clear H1
                  replace H := Option.bind_eq_some_iff.mp H
                  obtain ⟨t542, A630, H⟩ := H
                  replace H : (some t542) = some r := H
                  have A63 := Aside0.mk A630
                  clear A630
                  obtain rfl := Option.some.inj H
                  have hnb64 := NB526_529.out
                  have hnc64 := NB529_526.out
                  have hcz65_0 : wr.cell? ⟨gb526, 0, none⟩ = some (.int .i64 t523) := (blk_cell BK526.out 0).trans rfl
                  have hcz65_1 : wr.cell? ⟨gb526, 1, none⟩ = some (.int .i64 t524) := (blk_cell BK526.out 1).trans rfl
                  have hfz65_0 := blk_frozen BK526.out 0
                  have hfz65_1 := blk_frozen BK526.out 1
                  have hcz66_0 : wr.cell? ⟨gb529, 0, none⟩ = some (.int .i64 x530000_2) := (blk_cell BK529.out 0).trans rfl
                  have hcz66_1 : wr.cell? ⟨gb529, 1, none⟩ = some (.int .i64 x530001_2) := (blk_cell BK529.out 1).trans rfl
                  have hfz66_0 := blk_frozen BK529.out 0
                  have hfz66_1 := blk_frozen BK529.out 1
                  go_wp2_with (first | (go_at_call 19; (with_reducible refine (comfitlaw04_right.calls t523 t524 ji60 true _ A61.out).mono ?_); rintro e w67 ⟨rfl, hb⟩; have n0_ := Aside0.mk (blk_below (g := gb526) (o := .cells #[.int .i64 t523, .int .i64 t524] 25 (0, 0)) (by (with_reducible repeat (first | refine blk_drewN ?_ _ | refine blk_drew ?_ | refine blk_alloc ?_ _)); exact BK526.out) hb); have n1_ := Aside0.mk (blk_below (g := gb529) (o := .cells #[.int .i64 x530000_2, .int .i64 x530001_2] 25 (0, 0)) (by (with_reducible repeat (first | refine blk_drewN ?_ _ | refine blk_drew ?_ | refine blk_alloc ?_ _)); exact BK529.out) hb); have n2_ := Aside0.mk (below_step (by repeat (first | (with_reducible first | exact HB.out | apply below_alloc | apply pw_below_drewN | apply below_drew1 | refine below_set ?_ GE526.out | refine below_set ?_ GE529.out) | exact HB.out)) hb); clear BK526; clear BK529; clear HB; have BK526 := n0_; have BK529 := n1_; have HB := n2_; clear n0_ n1_ n2_; (try clear hb); (try clear hb2); (try clear hk); (try clear hi)) | (go_at_call 20; (with_reducible refine (comfitlaw04_awake.calls k2  t542 _ A63.out).mono ?_); rintro e w68 ⟨rfl, hb⟩; have n0_ := Aside0.mk (blk_below (g := gb526) (o := .cells #[.int .i64 t523, .int .i64 t524] 25 (0, 0)) (by (with_reducible repeat (first | refine blk_drewN ?_ _ | refine blk_drew ?_ | refine blk_alloc ?_ _)); exact BK526.out) hb); have n1_ := Aside0.mk (blk_below (g := gb529) (o := .cells #[.int .i64 x530000_2, .int .i64 x530001_2] 25 (0, 0)) (by (with_reducible repeat (first | refine blk_drewN ?_ _ | refine blk_drew ?_ | refine blk_alloc ?_ _)); exact BK529.out) hb); have n2_ := Aside0.mk (below_step (by repeat (first | (with_reducible first | exact HB.out | apply below_alloc | apply pw_below_drewN | apply below_drew1 | refine below_set ?_ GE526.out | refine below_set ?_ GE529.out) | exact HB.out)) hb); clear BK526; clear BK529; clear HB; have BK526 := n0_; have BK529 := n1_; have HB := n2_; clear n0_ n1_ n2_; (try clear hb); (try clear hb2); (try clear hk); (try clear hi)))
                  go_ret
                  exact ⟨by first | rfl | (simp [errW_none, errW_some] <;> rfl) | (simp only [← hji60]; first | rfl | (simp [errW_none, errW_some] <;> rfl)) | (simp [*, errW_none, errW_some] <;> rfl), by repeat (first | (with_reducible first | exact HB.out | apply below_alloc | apply pw_below_drewN | apply below_drew1 | refine below_set ?_ GE526.out | refine below_set ?_ GE529.out) | exact HB.out)⟩
                · replace c62 := Bool.eq_false_iff.mpr c62
                  subst c62
                  have H1 : (some false) = some r := by rw [if_neg (show ¬ (false = true) by decide)] at H; exact H
                  clear H
                  have H := H1
                  clear H1
                  obtain rfl := Option.some.inj H
                  have hnb69 := NB526_529.out
                  have hnc69 := NB529_526.out
                  have hcz70_0 : wr.cell? ⟨gb526, 0, none⟩ = some (.int .i64 t523) := (blk_cell BK526.out 0).trans rfl
                  have hcz70_1 : wr.cell? ⟨gb526, 1, none⟩ = some (.int .i64 t524) := (blk_cell BK526.out 1).trans rfl
                  have hfz70_0 := blk_frozen BK526.out 0
                  have hfz70_1 := blk_frozen BK526.out 1
                  have hcz71_0 : wr.cell? ⟨gb529, 0, none⟩ = some (.int .i64 x530000_2) := (blk_cell BK529.out 0).trans rfl
                  have hcz71_1 : wr.cell? ⟨gb529, 1, none⟩ = some (.int .i64 x530001_2) := (blk_cell BK529.out 1).trans rfl
                  have hfz71_0 := blk_frozen BK529.out 0
                  have hfz71_1 := blk_frozen BK529.out 1
                  go_wp2_with (first | (go_at_call 19; (with_reducible refine (comfitlaw04_right.calls t523 t524 ji60 false _ A61.out).mono ?_); rintro e w72 ⟨rfl, hb⟩; have n0_ := Aside0.mk (blk_below (g := gb526) (o := .cells #[.int .i64 t523, .int .i64 t524] 25 (0, 0)) (by (with_reducible repeat (first | refine blk_drewN ?_ _ | refine blk_drew ?_ | refine blk_alloc ?_ _)); exact BK526.out) hb); have n1_ := Aside0.mk (blk_below (g := gb529) (o := .cells #[.int .i64 x530000_2, .int .i64 x530001_2] 25 (0, 0)) (by (with_reducible repeat (first | refine blk_drewN ?_ _ | refine blk_drew ?_ | refine blk_alloc ?_ _)); exact BK529.out) hb); have n2_ := Aside0.mk (below_step (by repeat (first | (with_reducible first | exact HB.out | apply below_alloc | apply pw_below_drewN | apply below_drew1 | refine below_set ?_ GE526.out | refine below_set ?_ GE529.out) | exact HB.out)) hb); clear BK526; clear BK529; clear HB; have BK526 := n0_; have BK529 := n1_; have HB := n2_; clear n0_ n1_ n2_; (try clear hb); (try clear hb2); (try clear hk); (try clear hi)))
                  go_ret
                  exact ⟨by first | rfl | (simp [errW_none, errW_some] <;> rfl) | (simp only [← hji60]; first | rfl | (simp [errW_none, errW_some] <;> rfl)) | (simp [*, errW_none, errW_some] <;> rfl), by repeat (first | (with_reducible first | exact HB.out | apply below_alloc | apply pw_below_drewN | apply below_drew1 | refine below_set ?_ GE526.out | refine below_set ?_ GE529.out) | exact HB.out)⟩
              · rw [if_neg c59] at H
                have c59b0 : (t523 == x530000_2 && (t524 == x530001_2)) = false := by simpa using c59
                (try (have c59b1 : decide (t523 = x530000_2 && (t524 == x530001_2)) = false := by simpa using c59))
                (try (have c59b2 : (t523 == x530000_2 && (t524 == x530001_2)) = false := by simpa using c59))
                (try (have c59b3 : ¬ (t523 = x530000_2 && (t524 == x530001_2)) := by simpa using c59))
                clear c59
                obtain rfl := Option.some.inj H
                have hnb73 := NB526_529.out
                have hnc73 := NB529_526.out
                have hcz74_0 : wr.cell? ⟨gb526, 0, none⟩ = some (.int .i64 t523) := (blk_cell BK526.out 0).trans rfl
                have hcz74_1 : wr.cell? ⟨gb526, 1, none⟩ = some (.int .i64 t524) := (blk_cell BK526.out 1).trans rfl
                have hfz74_0 := blk_frozen BK526.out 0
                have hfz74_1 := blk_frozen BK526.out 1
                have hcz75_0 : wr.cell? ⟨gb529, 0, none⟩ = some (.int .i64 x530000_2) := (blk_cell BK529.out 0).trans rfl
                have hcz75_1 : wr.cell? ⟨gb529, 1, none⟩ = some (.int .i64 x530001_2) := (blk_cell BK529.out 1).trans rfl
                have hfz75_0 := blk_frozen BK529.out 0
                have hfz75_1 := blk_frozen BK529.out 1
                go_wp2
                go_ret
                exact ⟨by first | rfl | (simp [errW_none, errW_some] <;> rfl) | (simp [*, errW_none, errW_some] <;> rfl), by repeat (first | (with_reducible first | exact HB.out | apply below_alloc | apply pw_below_drewN | apply below_drew1 | refine below_set ?_ GE526.out | refine below_set ?_ GE529.out) | exact HB.out)⟩

/-- THE ONE PURE STATEMENT of comfitlaw04_PacketsCount: yours. -/
def comfitlaw04_PacketsCount.Pure : Prop := ∀ (l0 : List Int) (a1 : Int), l0.length ≤ maxLen → l0.length * 8 ≤ 140737488351232 → (∀ x ∈ l0, (Lit.int .i64 x).wf = true) → (Lit.int .i64 a1).wf = true → ∃ k, comfitlaw04_PacketsCount.f k l0 a1 = some true
theorem comfitlaw04_PacketsCount.walk (P : comfitlaw04_PacketsCount.Pure) (a0 : Option Addr) (len0 cap0 : Nat) (z0 : List Int) (a1 : Int) (w : World) (w0 : (a0 = none ∧ len0 = 0 ∧ cap0 = 0 ∧ z0 = []) ∨ ∃ x, a0 = some x ∧ len0 ≤ cap0 ∧ cap0 ≤ maxLen ∧ z0.length = cap0 ∧ (∀ i, i < z0.length → w.cell? (x.add i) = some (.int .i64 (z0.getD i 0))) ∧ ∀ n ∈ z0, (Lit.int .i64 n).wf = true) (y0 : len0 * 8 ≤ 140737488351232) (w1 : (Lit.int .i64 a1).wf = true) :
    Calls Try.prog 12 #[.slice a0 len0 cap0, .int .i64 a1] w fun e w' => e = .returned (.bool true) ∧ Below w.heap.size w w' := by
  obtain ⟨l0, rfl, hr0, hm0, hw0, hc0⟩ := ReadsInt.ofRowC w0
  obtain ⟨k, h⟩ := P l0 a1 hm0 y0 hw0 w1
  refine (comfitlaw04_PacketsCount.calls k _ _ l0 a1 true w (Kd.C_of_reads (d := (0 : Int)) (h1 := fun _ => rfl) hr0) hc0 h).mono ?_
  rintro e w' ⟨rfl, hd⟩
  exact ⟨rfl, hd⟩

end Go.Proofs.Ytigmhomfadimnaa.X
