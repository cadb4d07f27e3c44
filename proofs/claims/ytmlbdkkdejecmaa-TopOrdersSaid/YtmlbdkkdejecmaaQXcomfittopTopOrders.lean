/- Written by a program of this session (wip/tools/xprint.py, which calls the kit's print): Go functions as Lean functions, and for each the proof that the machine's call does what it says; no conditions but those that each theorem names. -/
import Derived.Test.YtmlbdkkdejecmaaQX0
import Derived.Test.YtmlbdkkdejecmaaQXE
import Derived.Test.YtmlbdkkdejecmaaQXG
import Derived.Test.YtmlbdkkdejecmaaQXM
import Derived.Test.YtmlbdkkdejecmaaQXRd
import Derived.Test.YtmlbdkkdejecmaaQXS
import Derived.Test.YtmlbdkkdejecmaaQXZ
import Derived.Test.YtmlbdkkdejecmaaQHFewer
import Derived.Test.YtmlbdkkdejecmaaQHMarks
namespace Go.Proofs.Ytmlbdkkdejecmaa.X
open Go.RowKit Go.Proofs.YtmlbdkkdejecmaaW.PrintWords Go.Proofs.YtmlbdkkdejecmaaW.PrintLast Go.Proofs.YtmlbdkkdejecmaaW.PrintMore
attribute [local go_sem] max2_int min2_int max_two min_two max_three min_three max_four min_four   -- for this text's walks alone
set_option linter.unusedVariables false
set_option linter.unusedSimpArgs false

/-! ### comfittop_TopOrders: function 5 -/
mutual
def comfittop_TopOrders.j0 : Nat → List (S44) → Bool → Int → Int → Option (Bool)
 | 0, _, _, _, _ => none
 | k + 1, x0, x24, x199000, x199001 => if x24 = true then ((comfittop_marks.f).bind fun t200 => (some t200)) else (comfittop_TopOrders.l0 k x0 ([] : List (S45)) ([] : List Int) x0 (x0.length : Int) 0 x199000 x199001)
def comfittop_TopOrders.l0 : Nat → List (S44) → List (S45) → List Int → List (S44) → Int → Int → Int → Int → Option (Bool)
 | 0, _, _, _, _, _, _, _, _ => none
 | k + 1, x0, x5, x6, x26, x27, x28, x199000, x199001 => if x28 < x27 then (if 0 ≤ x28 then (if x28 < (x26.length : Int) then (if x5.length < 4398046511104 then ((some (x5 ++ [(⟨(rd_T44 x26 x28).f0, (rd_T44 x26 x28).f1, (rd_T44 x26 x28).f2, (rd_T44 x26 x28).f3⟩ : S45)] : List (S45))).bind fun y203 => (if ((rd_T44 x26 x28).f0) > 0 then (if 0 ≤ ((rd_T44 x26 x28).f2) then (comfittop_TopOrders.j2 k x0 y203 x6 (Go.bits .or .i64 0 (shl .i64 1 ((rd_T44 x26 x28).f2))) x26 x27 x28 x199000 x199001 ((rd_T44 x26 x28).f0) ((rd_T44 x26 x28).f1) ((rd_T44 x26 x28).f2) ((rd_T44 x26 x28).f3)) else (none)) else (comfittop_TopOrders.j2 k x0 y203 x6 0 x26 x27 x28 x199000 x199001 ((rd_T44 x26 x28).f0) ((rd_T44 x26 x28).f1) ((rd_T44 x26 x28).f2) ((rd_T44 x26 x28).f3)))) else (none)) else (none)) else (none)) else ((tags_Order.f x5).bind fun t212 => ((tags_Fewer.f t212).bind fun bt215 => ((comfittop_reached.f k x6).bind fun t219 => (if bt215.2 = 0 then (if t219 < 1 then (comfittop_TopOrders.j3 k x0 x5 t219 true x199000 x199001) else ((comfittop_size.f k t219).bind fun t220 => (comfittop_TopOrders.j3 k x0 x5 t219 ((bt215.1.length : Int) != t220) x199000 x199001))) else (comfittop_TopOrders.j3 k x0 x5 t219 true x199000 x199001)))))
def comfittop_TopOrders.j2 : Nat → List (S44) → List (S45) → List Int → Int → List (S44) → Int → Int → Int → Int → Int → Int → Int → Int → Option (Bool)
 | 0, _, _, _, _, _, _, _, _, _, _, _, _, _ => none
 | k + 1, x0, x5, x6, x9, x26, x27, x28, x199000, x199001, x203000, x203001, x203002, x203003 => if x203000 = 2 then (if 0 ≤ x203003 then (if x6.length < 17592186044416 then (comfittop_TopOrders.l0 k x0 x5 (x6 ++ [Go.bits .or .i64 x9 (shl .i64 1 x203003)]) x26 x27 (wrap64 (x28 + 1)) x199000 x199001) else (none)) else (none)) else (if x6.length < 17592186044416 then (comfittop_TopOrders.l0 k x0 x5 (x6 ++ [x9]) x26 x27 (wrap64 (x28 + 1)) x199000 x199001) else (none))
def comfittop_TopOrders.j3 : Nat → List (S44) → List (S45) → Int → Bool → Int → Int → Option (Bool)
 | 0, _, _, _, _, _, _ => none
 | k + 1, x0, x5, x12, x85, x199000, x199001 => if x85 = true then (none) else ((tags_Order.f x5).bind fun t221 => ((tags_Ends.f k t221 x199000 x199001).bind fun bt224 => (if bt224.2 = 0 then ((tags_Go.f k x5 x199000 x199001 bt224.1).bind fun bt228 => (if bt228.2.2.2.2 = 0 then (if bt228.2.2.2.1 = bt224.1 then (if bt228.1 ≥ 0 then (if bt228.1 < (x0.length : Int) then (if 0 ≤ bt228.1 then (if ((rd_T44 x0 bt228.1).f0) = 0 then (if (Go.bits .and .i64 (shr .i64 x12 bt228.1) 1) = 1 then ((comfittop_marks.f).bind fun t235 => (some t235)) else (none)) else (none)) else (none)) else (none)) else (none)) else (none)) else (none))) else (if bt224.2 = 4 then ((comfittop_marks.f).bind fun t226 => (some t226)) else (if bt224.2 = 2 then ((comfittop_marks.f).bind fun t227 => (some t227)) else (none))))))
end
def comfittop_TopOrders.f (k : Nat) (l0 : List (S44)) (a1_0 : Int) (a1_1 : Int) : Option (Bool) := (comfitref06_Machine.f k l0).bind fun t199 => (if t199 = true then (comfittop_TopOrders.j0 k l0 (decide ((l0.length : Int) > 6)) a1_0 a1_1) else (comfittop_TopOrders.j0 k l0 true a1_0 a1_1))
def comfittop_TopOrders.T20 : Bool × List (List Nat × List Nat) := (true, [([], []), ([0], [0]), ([], []), ([1, 2, 1], [1, 2]), ([3], [3]), ([4], [4]), ([4], [4]), ([5, 3, 0, 1, 2, 3, 4, 5], [5]), ([6, 7, 0, 1, 2, 3, 4, 5, 6, 7], [6])])
def comfittop_TopOrders.B20 : List Nat := [0, 1, 0, 7, 15, 31, 31, 63, 255]
theorem comfittop_TopOrders.tab20 : rtab .any (opsOf Try.f5 20) = comfittop_TopOrders.T20 := by kernel_rfl
theorem comfittop_TopOrders.bits20 : waitsOk comfittop_TopOrders.T20.2 comfittop_TopOrders.B20 = true := by kernel_rfl
set_option maxHeartbeats 8000000 in
set_option maxRecDepth 100000 in
theorem comfittop_TopOrders.calls (k : Nat) (A0 : Option Addr) (c0 : Nat) (l0 : List (S44)) (a1_0 : Int) (a1_1 : Int) (r : Bool) (w : World) (hr0 : Kd.C k44 w A0 l0.length l0) (hc0 : l0.length ≤ c0) (h : comfittop_TopOrders.f k l0 a1_0 a1_1 = some r) :
  Calls Try.prog 5 #[.slice A0 l0.length c0, .agg #[.int .i64 a1_0, .int .i64 a1_1]] w fun e w' => e = .returned (.bool r) ∧ Below w.heap.size w w' := by
 have hu40 := Try.underlying40
 have hu44 := Try.underlying44
 have hu45 := Try.underlying45
 have HR0 := Aside0.mk hr0
 have HC0 := Aside0.mk hc0
 clear hr0 hc0
 have HB := Aside0.mk (Below.refl w.heap.size w)
 have H : ((comfitref06_Machine.f k l0).bind fun t199 => (if t199 = true then (comfittop_TopOrders.j0 k l0 (decide ((l0.length : Int) > 6)) a1_0 a1_1) else (comfittop_TopOrders.j0 k l0 true a1_0 a1_1))) = some r := h
 clear h
 have HC3 := Aside0.mk H
 clear H
 go_enter Try.func5, Try.ntmps5
 go_upto_region 1 with (first | ((with_reducible refine gate_dst (N := 3) rfl ?_); (try (refine gate_guard (by rfl) ?_; dsimp only)); refine box_event ?hg (N := 3) ?hd (cs := #[.int .i64 a1_0, .int .i64 a1_1]) (t := 40) ?hr ?_; (case hd => rfl); (case hg => rfl); (case hr => first | (go_simp; done) | (go_simp; rfl)); intro gb198 hg w4 hbox hb; have n0_ := Aside0.mk (below_step (hb_ HB.out) hb); have n1_ := Aside0.mk (hbox); have n2_ := Aside0.mk ((by rw [hg]; exact (below_size (hb_ HB.out)) : w.heap.size ≤ gb198)); have n3_ := Aside0.mk ((by rw [hg]; exact (below_size (hb_ HB.out)) : w.heap.size ≤ gb198)); clear HB; have HB := n0_; have BK198 := n1_; have GW198 := n2_; have GE198 := n3_; clear n0_ n1_ n2_ n3_; clear hb hbox hg))
 (try simp only [Act.put, List.setIfInBounds_toArray, List.set_cons_zero, List.set_cons_succ])
 go_cut [24] (fun v24 wc => ∃ (kq : Nat) (x24_2 : Bool), v24 = .bool x24_2 ∧ Aside0 (comfittop_TopOrders.j0 kq l0 x24_2 a1_0 a1_1 = some r) ∧ Aside0 (kq ≤ k) ∧ Aside0 (wc.heap[gb198]? = some (.cells #[.int .i64 a1_0, .int .i64 a1_1] 40 (0, 0))) ∧ Aside0 (Below w.heap.size w wc))
 case first =>
  have H := HC3.out
  clear HC3
  replace H := Option.bind_eq_some_iff.mp H
  obtain ⟨t199, A50, H⟩ := H
  replace H : (if t199 = true then (comfittop_TopOrders.j0 k l0 (decide ((l0.length : Int) > 6)) a1_0 a1_1) else (comfittop_TopOrders.j0 k l0 true a1_0 a1_1)) = some r := H
  have A5 := Aside0.mk A50
  clear A50
  by_cases c6 : t199 = true
  ·subst c6
   have H1 : (comfittop_TopOrders.j0 k l0 (decide ((l0.length : Int) > 6)) a1_0 a1_1) = some r := by rw [if_pos rfl] at H; exact H
   clear H
   have H := H1
   clear H1
   have H' := Aside0.mk H
   clear H
   go_wp2_with (first | ((with_reducible refine gate_callee (f := 13) rfl ?_); refine goesL_ (some 18) rfl rfl Try.func13 (by kernel_rfl) rfl #[.slice A0 l0.length c0] rfl al_ ?_; (with_reducible refine (comfitref06_Machine.calls k _ _ l0 true _ ?side1 ?side2 A5.out).mono ?_); (case side1 => exact kc_ (Kd.C_below HR0.out HB.out)); (case side2 => exact HC0.out); rintro e w7 ⟨rfl, hb⟩; refine ⟨_, rfl, ?_⟩; have n0_ := Aside0.mk (bkb_ BK198.out hb); have n1_ := Aside0.mk (below_step (hb_ HB.out) hb); clear BK198; clear HB; have BK198 := n0_; have HB := n1_; clear n0_ n1_; (try clear hb); (try clear hb2); (try clear hk); (try clear hi)))
   go_meet
   case rel => exact ⟨_, (decide ((l0.length : Int) > 6)), (by first | rfl | (simp; done) | (simp [*]; done)), H', ⟨by first | omega | exact Nat.le_refl _⟩, ⟨by (with_reducible repeat (first | refine blk_drewN ?_ _ | refine blk_drew ?_ | refine blk_alloc ?_ _)); exact BK198.out⟩, ⟨by repeat (first | (with_reducible first | exact HB.out | apply below_alloc | apply pw_below_drewN | apply below_drew1 | refine below_set ?_ GE198.out) | exact HB.out)⟩⟩
  ·replace c6 := Bool.eq_false_iff.mpr c6
   subst c6
   have H1 : (comfittop_TopOrders.j0 k l0 true a1_0 a1_1) = some r := by rw [if_neg (show ¬ (false = true) by decide)] at H; exact H
   clear H
   have H := H1
   clear H1
   have H' := Aside0.mk H
   clear H
   go_wp2_with (first | ((with_reducible refine gate_callee (f := 13) rfl ?_); refine goesL_ (some 18) rfl rfl Try.func13 (by kernel_rfl) rfl #[.slice A0 l0.length c0] rfl al_ ?_; (with_reducible refine (comfitref06_Machine.calls k _ _ l0 false _ ?side1 ?side2 A5.out).mono ?_); (case side1 => exact kc_ (Kd.C_below HR0.out HB.out)); (case side2 => exact HC0.out); rintro e w8 ⟨rfl, hb⟩; refine ⟨_, rfl, ?_⟩; have n0_ := Aside0.mk (bkb_ BK198.out hb); have n1_ := Aside0.mk (below_step (hb_ HB.out) hb); clear BK198; clear HB; have BK198 := n0_; have HB := n1_; clear n0_ n1_; (try clear hb); (try clear hb2); (try clear hk); (try clear hi)))
   go_meet
   case rel => exact ⟨_, (true), (by first | rfl | (simp; done) | (simp [*]; done)), H', ⟨by first | omega | exact Nat.le_refl _⟩, ⟨by (with_reducible repeat (first | refine blk_drewN ?_ _ | refine blk_drew ?_ | refine blk_alloc ?_ _)); exact BK198.out⟩, ⟨by repeat (first | (with_reducible first | exact HB.out | apply below_alloc | apply pw_below_drewN | apply below_drew1 | refine below_set ?_ GE198.out) | exact HB.out)⟩⟩
 case rest =>
  clear HC3
  try clear c1
  try clear p2
  try clear c5
  try clear c6
  obtain ⟨kq, x24_2, rfl, HA, HJ2, BK198, HB⟩ := hcut
  cases kq with
  | zero => exact absurd HA.out (by simp [comfittop_TopOrders.j0])
  | succ kj2 =>
   have H := HA.out
   clear HA
   simp only [comfittop_TopOrders.j0] at H
   by_cases c9 : x24_2 = true
   ·subst c9
    have H1 : ((comfittop_marks.f).bind fun t200 => (some t200)) = some r := by rw [if_pos rfl] at H; exact H
    clear H
    have H := H1
    clear H1
    replace H := Option.bind_eq_some_iff.mp H
    obtain ⟨t200, A100, H⟩ := H
    replace H : (some t200) = some r := H
    have A10 := Aside0.mk A100
    clear A100
    obtain rfl := Option.some.inj H
    go_wp2_with (first | ((with_reducible refine gate_callee (f := 14) rfl ?_); refine goesL_ (some 25) rfl rfl Try.func14 (by kernel_rfl) rfl #[] rfl al_ ?_; (with_reducible refine (comfittop_marks.calls  t200 _ A10.out).mono ?_); rintro e w11 ⟨rfl, hb⟩; refine ⟨_, rfl, ?_⟩; have n0_ := Aside0.mk (bkb_ BK198.out hb); have n1_ := Aside0.mk (below_step (hb_ HB.out) hb); clear BK198; clear HB; have BK198 := n0_; have HB := n1_; clear n0_ n1_; (try clear hb); (try clear hb2); (try clear hk); (try clear hi)))
    go_ret
    exact ⟨by first | rfl | (simp [errW_none, errW_some] <;> rfl) | (simp [*, errW_none, errW_some] <;> rfl), by repeat (first | (with_reducible first | exact HB.out | apply below_alloc | apply pw_below_drewN | apply below_drew1 | refine below_set ?_ GE198.out) | exact HB.out)⟩
   ·replace c9 := Bool.eq_false_iff.mpr c9
    subst c9
    have H1 : (comfittop_TopOrders.l0 kj2 l0 ([] : List (S45)) ([] : List Int) l0 (l0.length : Int) 0 a1_0 a1_1) = some r := by rw [if_neg (show ¬ (false = true) by decide)] at H; exact H
    clear H
    have H := H1
    clear H1
    have H' := Aside0.mk H
    clear H
    go_wp2
    go_loopg [5, 6, 28] kj2 (fun kq v5 v6 v28 w' => ∃ (x5_2 : List (S45)) (x6_2 : List Int) (x28_2 : Int), v28 = .int .i64 x28_2 ∧ Aside0 (comfittop_TopOrders.l0 kq l0 x5_2 x6_2 l0 (l0.length : Int) x28_2 a1_0 a1_1 = some r) ∧ Aside0 (kq ≤ kj2) ∧ Aside0 (Kd.R k45 45 w' w.heap.size (fun _ => True) v5 x5_2) ∧ Aside0 (Kd.R (Kd.int .i64) 3 w' w.heap.size (fun _ => True) v6 x6_2) ∧ Aside0 (w'.heap[gb198]? = some (.cells #[.int .i64 a1_0, .int .i64 a1_1] 40 (0, 0))) ∧ Aside0 (Below w.heap.size w w'))
    case atStart => exact ⟨(([] : List (S45))), (([] : List Int)), (0), (by first | rfl | (simp; done) | (simp [*]; done)), H', ⟨Nat.le_refl _⟩, ⟨by first | exact Kd.R_nil _ _ _ _ _ | exact Kd.N_nil _ _ _ _ _ | exact Kd.V_nil _ _ _ _ _ | exact Kd.Q_nil _ _ _ _ _ | exact Kd.S_nil _ _ _ _ _⟩, ⟨by first | exact Kd.R_nil _ _ _ _ _ | exact Kd.N_nil _ _ _ _ _ | exact Kd.V_nil _ _ _ _ _ | exact Kd.Q_nil _ _ _ _ _ | exact Kd.S_nil _ _ _ _ _⟩, ⟨by (with_reducible repeat (first | refine blk_drewN ?_ _ | refine blk_drew ?_ | refine blk_alloc ?_ _)); exact BK198.out⟩, ⟨by repeat (first | (with_reducible first | exact HB.out | apply below_alloc | apply pw_below_drewN | apply below_drew1 | refine below_set ?_ GE198.out) | exact HB.out)⟩⟩
    case round =>
     clear H'
     try clear c1
     try clear p2
     try clear c5
     try clear c6
     try clear c9
     try clear p2
     obtain ⟨x5_2, x6_2, x28_2, rfl, HA, HK2, HO_5, HO_6, BK198, HB⟩ := hrel
     cases gk with
     | zero => exact absurd HA.out (by simp [comfittop_TopOrders.l0])
     | succ k2 =>
      have H := HA.out
      clear HA
      simp only [comfittop_TopOrders.l0] at H
      by_cases c12 : x28_2 < (l0.length : Int)
      ·rw [if_pos c12] at H
       have c12b0 : decide (x28_2 < (l0.length : Int)) = true := decide_eq_true c12
       clear c12
       by_cases c13 : 0 ≤ x28_2
       ·rw [if_pos c13] at H
        have c13b0 : decide (0 ≤ x28_2) = true := decide_eq_true c13
        clear c13
        by_cases c14 : x28_2 < (l0.length : Int)
        ·rw [if_pos c14] at H
         have c14b0 : decide (x28_2 < (l0.length : Int)) = true := decide_eq_true c14
         clear c14
         by_cases c15 : x5_2.length < 4398046511104
         ·rw [if_pos c15] at H
          have LMc15 := Aside0.mk c15
          clear c15
          obtain ⟨y203, hy203⟩ : ∃ y_ : List (S45), y_ = (x5_2 ++ [(⟨(rd_T44 l0 x28_2).f0, (rd_T44 l0 x28_2).f1, (rd_T44 l0 x28_2).f2, (rd_T44 l0 x28_2).f3⟩ : S45)]) := ⟨_, rfl⟩
          replace H : (if ((rd_T44 l0 x28_2).f0) > 0 then (if 0 ≤ ((rd_T44 l0 x28_2).f2) then (comfittop_TopOrders.j2 k2 l0 y203 x6_2 (Go.bits .or .i64 0 (shl .i64 1 ((rd_T44 l0 x28_2).f2))) l0 (l0.length : Int) x28_2 a1_0 a1_1 ((rd_T44 l0 x28_2).f0) ((rd_T44 l0 x28_2).f1) ((rd_T44 l0 x28_2).f2) ((rd_T44 l0 x28_2).f3)) else (none)) else (comfittop_TopOrders.j2 k2 l0 y203 x6_2 0 l0 (l0.length : Int) x28_2 a1_0 a1_1 ((rd_T44 l0 x28_2).f0) ((rd_T44 l0 x28_2).f1) ((rd_T44 l0 x28_2).f2) ((rd_T44 l0 x28_2).f3))) = some r := by first | (rw [hy203]; with_reducible exact H) | (have H2_ := (Option.bind_some _ _).symm.trans H; rw [hy203]; with_reducible exact H2_) | (have H2_ := (Option.bind_some _ _).symm.trans H; with_reducible exact H2_) | with_reducible exact H | (rw [hy203]; exact H) | exact H
          have Ny203 := Aside0.mk hy203
          clear hy203
          have HC16 := Aside0.mk H
          clear H
          have p201 : 0 ≤ (x28_2 : Int) := of_decide_eq_true (by first | (with_reducible assumption) | assumption)
          have q201 : x28_2 < (l0.length : Int) := of_decide_eq_true (by first | (with_reducible assumption) | assumption)
          obtain ⟨ad201, e201, hx201_0, hx201_1, hx201_2, hx201_3⟩ := at_T44 HR0.out x28_2 p201 q201
          cases e201
          replace hx201_0 := (HB.out.cell (World.block_lt_of_cell? w _ hx201_0)).trans hx201_0
          replace hx201_1 := (HB.out.cell (World.block_lt_of_cell? w _ hx201_1)).trans hx201_1
          replace hx201_2 := (HB.out.cell (World.block_lt_of_cell? w _ hx201_2)).trans hx201_2
          replace hx201_3 := (HB.out.cell (World.block_lt_of_cell? w _ hx201_3)).trans hx201_3
          replace p201 := eq_true p201
          replace q201 := eq_true q201
          go_upto_if 46 with (first | ((with_reducible refine gate_dst (N := 8) rfl ?_); (try (refine gate_guard (by rfl) ?_; dsimp only)); refine box_event ?hg (N := 8) ?hd (cs := #[.int .i64 0, .int .i64 0, .int .i64 0, .int .i64 0]) (t := 44) ?hr ?_; (case hd => rfl); (case hg => rfl); (case hr => first | (go_simp; done) | (go_simp; rfl)); intro gb202 hg w17 hbox hb; have n0_ := Aside0.mk (Kd.R_below (kr_ (HO_5.out)) hb); have n1_ := Aside0.mk (Kd.R_below (kr_ (HO_6.out)) hb); have n2_ := Aside0.mk (bkb_ BK198.out hb); have n3_ := Aside0.mk (below_step (hb_ HB.out) hb); have n4_ := Aside0.mk (hbox); have n5_ := Aside0.mk ((by rw [hg]; exact (below_size (hb_ HB.out)) : w.heap.size ≤ gb202)); have n6_ := Aside0.mk ((by rw [hg]; exact (below_size (hb_ HB.out)) : w.heap.size ≤ gb202)); have n7_ := Aside0.mk ((by rw [hg]; exact Nat.ne_of_lt (bkl_ BK198.out) : gb198 ≠ gb202)); have n8_ := Aside0.mk ((by rw [hg]; exact Nat.ne_of_gt (bkl_ BK198.out) : gb202 ≠ gb198)); clear HO_5; clear HO_6; clear BK198; clear HB; have HO_5 := n0_; have HO_6 := n1_; have BK198 := n2_; have HB := n3_; have BK202 := n4_; have GW202 := n5_; have GE202 := n6_; have NB198_202 := n7_; have NB202_198 := n8_; clear n0_ n1_ n2_ n3_ n4_ n5_ n6_ n7_ n8_; clear hb hbox hg; have hnb18 := NB202_198.out; have hnc18 := NB198_202.out; have hcz19_0 : w17.cell? ⟨gb202, 0, none⟩ = some (.int .i64 0) := (blk_cell BK202.out 0).trans rfl; have hcz19_1 : w17.cell? ⟨gb202, 1, none⟩ = some (.int .i64 0) := (blk_cell BK202.out 1).trans rfl; have hcz19_2 : w17.cell? ⟨gb202, 2, none⟩ = some (.int .i64 0) := (blk_cell BK202.out 2).trans rfl; have hcz19_3 : w17.cell? ⟨gb202, 3, none⟩ = some (.int .i64 0) := (blk_cell BK202.out 3).trans rfl; have hfz19_0 := blk_frozen BK202.out 0; have hfz19_1 := blk_frozen BK202.out 1; have hfz19_2 := blk_frozen BK202.out 2; have hfz19_3 := blk_frozen BK202.out 3) | ((with_reducible refine gate_builtin (b := .append) (xs := #[.tmp 32, .tmp 42]) rfl ?_); (try (refine gate_guard (by rfl) ?_; dsimp only)); at_builtin; refine Kd.R_append k45 (w0 := w) w.heap.size rfl (.tmp 32) (.tmp 42) 42 45 (.agg #[(.int .i64 0), (.int .i64 0), (.int .i64 0), (.int .i64 0)]) 32 rfl Try.underlying42 info45 rfl (by decide) (by omega) u5 x5_2 (⟨(rd_T44 l0 x28_2).f0, (rd_T44 l0 x28_2).f1, (rd_T44 l0 x28_2).f2, (rd_T44 l0 x28_2).f3⟩ : S45) [.int .i64 ((rd_T44 l0 x28_2).f0), .int .i64 ((rd_T44 l0 x28_2).f1), .int .i64 ((rd_T44 l0 x28_2).f2), .int .i64 ((rd_T44 l0 x28_2).f3)] (fun _ => True) (fun _ => False) rfl (by first | (go_simp; done) | (go_simp; rfl)) ?aP (fun _ hk => hk.elim) ?aF ?aO ?aB ?aS ?aL ?_; (case aP => exact k45_mkM _ _ _ (⟨(rd_T44 l0 x28_2).f0, (rd_T44 l0 x28_2).f1, (rd_T44 l0 x28_2).f2, (rd_T44 l0 x28_2).f3⟩ : S45)); (case aB => exact (hb_ HB.out)); (case aF => exact (fun _ _ => trivial)); (case aO => exact (by (with_reducible repeat (first | apply Kd.R_alloc | apply Kd.R_drewN | apply Kd.R_drew)); exact Kd.R_mono (Kd.R_far (p := ⟨gb202, 3, none⟩) (Kd.R_far (p := ⟨gb202, 2, none⟩) (Kd.R_far (p := ⟨gb202, 1, none⟩) (Kd.R_far (p := ⟨gb202, 0, none⟩) (Kd.R_types HO_5.out BK202.out (by decide)) (fun _ hk => hk.2) (.int .i64 ((rd_T44 l0 x28_2).f0))) (fun _ hk => hk.2) (.int .i64 ((rd_T44 l0 x28_2).f1))) (fun _ hk => hk.2) (.int .i64 ((rd_T44 l0 x28_2).f2))) (fun _ hk => hk.2) (.int .i64 ((rd_T44 l0 x28_2).f3))) (fun _ hk => trivial))); (case aS => exact (below_size (hb_ HB.out))); (case aL => have := LMc15.out; omega); intro v204 w20 ho hb hg hat; rw [← Ny203.out] at ho; have n0_ := Aside0.mk (Kd.R_over' (by (with_reducible repeat (first | apply Kd.R_alloc | apply Kd.R_drewN | apply Kd.R_drew)); exact (Kd.R_mono (Kd.R_far (p := ⟨gb202, 3, none⟩) (Kd.R_far (p := ⟨gb202, 2, none⟩) (Kd.R_far (p := ⟨gb202, 1, none⟩) (Kd.R_far (p := ⟨gb202, 0, none⟩) (Kd.R_types HO_6.out BK202.out (by decide)) (fun _ hk => hk.2) (.int .i64 ((rd_T44 l0 x28_2).f0))) (fun _ hk => hk.2) (.int .i64 ((rd_T44 l0 x28_2).f1))) (fun _ hk => hk.2) (.int .i64 ((rd_T44 l0 x28_2).f2))) (fun _ hk => hk.2) (.int .i64 ((rd_T44 l0 x28_2).f3))) (fun _ h_ => h_.1))) (Kd.R_typed (by (with_reducible repeat (first | apply Kd.R_alloc | apply Kd.R_drewN | apply Kd.R_drew)); exact (Kd.R_mono (Kd.R_far (p := ⟨gb202, 3, none⟩) (Kd.R_far (p := ⟨gb202, 2, none⟩) (Kd.R_far (p := ⟨gb202, 1, none⟩) (Kd.R_far (p := ⟨gb202, 0, none⟩) (Kd.R_types HO_5.out BK202.out (by decide)) (fun _ hk => hk.2) (.int .i64 ((rd_T44 l0 x28_2).f0))) (fun _ hk => hk.2) (.int .i64 ((rd_T44 l0 x28_2).f1))) (fun _ hk => hk.2) (.int .i64 ((rd_T44 l0 x28_2).f2))) (fun _ hk => hk.2) (.int .i64 ((rd_T44 l0 x28_2).f3))) (fun _ h_ => h_.1)))) (by decide) hg); have n1_ := Aside0.mk (blk_grown (g := gb198) (o := .cells #[.int .i64 a1_0, .int .i64 a1_1] 40 (0, 0)) (by (with_reducible repeat (first | refine blk_drewN ?_ _ | refine blk_drew ?_ | refine blk_alloc ?_ _)); refine blk_far ?_ NB198_202.out _; (with_reducible repeat (first | refine blk_drewN ?_ _ | refine blk_drew ?_ | refine blk_alloc ?_ _)); refine blk_far ?_ NB198_202.out _; (with_reducible repeat (first | refine blk_drewN ?_ _ | refine blk_drew ?_ | refine blk_alloc ?_ _)); refine blk_far ?_ NB198_202.out _; (with_reducible repeat (first | refine blk_drewN ?_ _ | refine blk_drew ?_ | refine blk_alloc ?_ _)); refine blk_far ?_ NB198_202.out _; (with_reducible repeat (first | refine blk_drewN ?_ _ | refine blk_drew ?_ | refine blk_alloc ?_ _)); exact BK198.out) hg (Kd.R_ne HO_5.out BK198.out (by decide))); have n2_ := Aside0.mk (blk_grown (g := gb202) (o := .cells #[.int .i64 ((rd_T44 l0 x28_2).f0), .int .i64 ((rd_T44 l0 x28_2).f1), .int .i64 ((rd_T44 l0 x28_2).f2), .int .i64 ((rd_T44 l0 x28_2).f3)] 44 (0, 0)) (by (with_reducible repeat (first | refine blk_drewN ?_ _ | refine blk_drew ?_ | refine blk_alloc ?_ _)); refine blk_put (cs := #[.int .i64 ((rd_T44 l0 x28_2).f0), .int .i64 ((rd_T44 l0 x28_2).f1), .int .i64 ((rd_T44 l0 x28_2).f2), .int .i64 0]) ?_ 3 _ rfl; (with_reducible repeat (first | refine blk_drewN ?_ _ | refine blk_drew ?_ | refine blk_alloc ?_ _)); refine blk_put (cs := #[.int .i64 ((rd_T44 l0 x28_2).f0), .int .i64 ((rd_T44 l0 x28_2).f1), .int .i64 0, .int .i64 0]) ?_ 2 _ rfl; (with_reducible repeat (first | refine blk_drewN ?_ _ | refine blk_drew ?_ | refine blk_alloc ?_ _)); refine blk_put (cs := #[.int .i64 ((rd_T44 l0 x28_2).f0), .int .i64 0, .int .i64 0, .int .i64 0]) ?_ 1 _ rfl; (with_reducible repeat (first | refine blk_drewN ?_ _ | refine blk_drew ?_ | refine blk_alloc ?_ _)); refine blk_put (cs := #[.int .i64 0, .int .i64 0, .int .i64 0, .int .i64 0]) ?_ 0 _ rfl; (with_reducible repeat (first | refine blk_drewN ?_ _ | refine blk_drew ?_ | refine blk_alloc ?_ _)); exact BK202.out) hg (Kd.R_ne HO_5.out BK202.out (by decide))); have n3_ := Aside0.mk (hb); have n4_ := Aside0.mk (ho); clear HO_6; clear BK198; clear BK202; clear HB; clear HO_5; have HO_6 := n0_; have BK198 := n1_; have BK202 := n2_; have HB := n3_; have HO205 := n4_; clear n0_ n1_ n2_ n3_ n4_; clear ho hb hg hat; have hcz21_0 : w20.cell? ⟨gb202, 0, none⟩ = some (.int .i64 ((rd_T44 l0 x28_2).f0)) := (blk_cell BK202.out 0).trans rfl; have hcz21_1 : w20.cell? ⟨gb202, 1, none⟩ = some (.int .i64 ((rd_T44 l0 x28_2).f1)) := (blk_cell BK202.out 1).trans rfl; have hcz21_2 : w20.cell? ⟨gb202, 2, none⟩ = some (.int .i64 ((rd_T44 l0 x28_2).f2)) := (blk_cell BK202.out 2).trans rfl; have hcz21_3 : w20.cell? ⟨gb202, 3, none⟩ = some (.int .i64 ((rd_T44 l0 x28_2).f3)) := (blk_cell BK202.out 3).trans rfl; have hfz21_0 := blk_frozen BK202.out 0; have hfz21_1 := blk_frozen BK202.out 1; have hfz21_2 := blk_frozen BK202.out 2; have hfz21_3 := blk_frozen BK202.out 3))
          (try simp only [Act.put, List.setIfInBounds_toArray, List.set_cons_zero, List.set_cons_succ])
          go_cut [9] (fun v9 wc => ∃ (kq : Nat) (x9_15 : Int), v9 = .int .i64 x9_15 ∧ Aside0 (comfittop_TopOrders.j2 kq l0 y203 x6_2 x9_15 l0 (l0.length : Int) x28_2 a1_0 a1_1 ((rd_T44 l0 x28_2).f0) ((rd_T44 l0 x28_2).f1) ((rd_T44 l0 x28_2).f2) ((rd_T44 l0 x28_2).f3) = some r) ∧ Aside0 (kq ≤ k2) ∧ Aside0 (Kd.R k45 45 wc w.heap.size (fun _ => True) v204 y203) ∧ Aside0 (Kd.R (Kd.int .i64) 3 wc w.heap.size (fun _ => True) u6 x6_2) ∧ Aside0 (wc.heap[gb198]? = some (.cells #[.int .i64 a1_0, .int .i64 a1_1] 40 (0, 0))) ∧ Aside0 (wc.heap[gb202]? = some (.cells #[.int .i64 ((rd_T44 l0 x28_2).f0), .int .i64 ((rd_T44 l0 x28_2).f1), .int .i64 ((rd_T44 l0 x28_2).f2), .int .i64 ((rd_T44 l0 x28_2).f3)] 44 (0, 0))) ∧ Aside0 (Below w.heap.size w wc))
          case first =>
           have H := HC16.out
           clear HC16
           by_cases c22 : ((rd_T44 l0 x28_2).f0) > 0
           ·rw [if_pos c22] at H
            have c22b0 : decide (0 < ((rd_T44 l0 x28_2).f0)) = true := decide_eq_true c22
            clear c22
            (first | rw [c22b0] | (simp only [i64_w, i32_w]; rw [c22b0]) | skip)
            by_cases c23 : 0 ≤ ((rd_T44 l0 x28_2).f2)
            ·rw [if_pos c23] at H
             have c23b0 := eq_true c23
             have c23b1 : decide (0 ≤ ((rd_T44 l0 x28_2).f2)) = true := decide_eq_true c23
             clear c23
             obtain ⟨ji24, hji24⟩ : ∃ j_ : Int, (shl .i64 1 ((rd_T44 l0 x28_2).f2)) = j_ := ⟨_, rfl⟩
             replace H : (comfittop_TopOrders.j2 k2 l0 y203 x6_2 (Go.bits .or .i64 0 (ji24)) l0 (l0.length : Int) x28_2 a1_0 a1_1 ((rd_T44 l0 x28_2).f0) ((rd_T44 l0 x28_2).f1) ((rd_T44 l0 x28_2).f2) ((rd_T44 l0 x28_2).f3)) = some r := by first | (rw [hji24] at H; exact H) | (simp only [hji24] at H ⊢; exact H)
             have hji24_ : (IntKind.i64.wrap (1 * 2 ^ min ((rd_T44 l0 x28_2).f2).toNat 64)) = ji24 := hji24
             have hji24z : ((rd_T44 l0 x28_2).f2) ≤ 64 → (IntKind.i64.wrap (1 * 2 ^ ((rd_T44 l0 x28_2).f2).toNat)) = ji24 := shl_small hji24
             have hji24u : (IntKind.i64.wrap (2 ^ min ((rd_T44 l0 x28_2).f2).toNat 64)) = ji24 := by have h_ := hji24_; rw [Int.one_mul] at h_; exact h_
             have hji24v : ((rd_T44 l0 x28_2).f2) ≤ 64 → (IntKind.i64.wrap (2 ^ ((rd_T44 l0 x28_2).f2).toNat)) = ji24 := fun hle_ => by have h_ := hji24z hle_; rw [Int.one_mul] at h_; exact h_
             have hji24y : (wrap64 (1 * 2 ^ min ((rd_T44 l0 x28_2).f2).toNat 64)) = ji24 := (i64_w _).symm.trans hji24_
             have hji24x : ((rd_T44 l0 x28_2).f2) ≤ 64 → (wrap64 (1 * 2 ^ ((rd_T44 l0 x28_2).f2).toNat)) = ji24 := fun h_ => (i64_w _).symm.trans (hji24z h_)
             have H' := Aside0.mk H
             clear H
             have hnb25 := NB202_198.out
             have hnc25 := NB198_202.out
             have hcz26_0 : w20.cell? ⟨gb202, 0, none⟩ = some (.int .i64 ((rd_T44 l0 x28_2).f0)) := (blk_cell BK202.out 0).trans rfl
             have hcz26_1 : w20.cell? ⟨gb202, 1, none⟩ = some (.int .i64 ((rd_T44 l0 x28_2).f1)) := (blk_cell BK202.out 1).trans rfl
             have hcz26_2 : w20.cell? ⟨gb202, 2, none⟩ = some (.int .i64 ((rd_T44 l0 x28_2).f2)) := (blk_cell BK202.out 2).trans rfl
             have hcz26_3 : w20.cell? ⟨gb202, 3, none⟩ = some (.int .i64 ((rd_T44 l0 x28_2).f3)) := (blk_cell BK202.out 3).trans rfl
             have hfz26_0 := blk_frozen BK202.out 0
             have hfz26_1 := blk_frozen BK202.out 1
             have hfz26_2 := blk_frozen BK202.out 2
             have hfz26_3 := blk_frozen BK202.out 3
             go_wp2
             go_meet
             case rel => exact ⟨_, (Go.bits .or .i64 0 (ji24)), (by first | rfl | (simp; done) | (simp only [← hji24] <;> (first | rfl | simp)) | (simp [*]; done)), H', ⟨by have := HJ2.out; have := HK2.out; first | omega | exact Nat.le_refl _⟩, ⟨by (with_reducible repeat (first | apply Kd.R_alloc | apply Kd.R_drewN | apply Kd.R_drew)); exact HO205.out⟩, ⟨by (with_reducible repeat (first | apply Kd.R_alloc | apply Kd.R_drewN | apply Kd.R_drew)); exact HO_6.out⟩, ⟨by (with_reducible repeat (first | refine blk_drewN ?_ _ | refine blk_drew ?_ | refine blk_alloc ?_ _)); exact BK198.out⟩, ⟨by (with_reducible repeat (first | refine blk_drewN ?_ _ | refine blk_drew ?_ | refine blk_alloc ?_ _)); exact BK202.out⟩, ⟨by repeat (first | (with_reducible first | exact HB.out | apply below_alloc | apply pw_below_drewN | apply below_drew1 | refine below_set ?_ GE198.out | refine below_set ?_ GE202.out) | exact HB.out)⟩⟩
            ·rw [if_neg c23] at H
             exact absurd H (by simp)
           ·rw [if_neg c22] at H
            have c22b0 : decide (0 < ((rd_T44 l0 x28_2).f0)) = false := decide_eq_false c22
            clear c22
            (first | rw [c22b0] | (simp only [i64_w, i32_w]; rw [c22b0]) | skip)
            have H' := Aside0.mk H
            clear H
            go_wp2
            go_meet
            case rel => exact ⟨_, (0), (by first | rfl | (simp; done) | (simp [*]; done)), H', ⟨by have := HJ2.out; have := HK2.out; first | omega | exact Nat.le_refl _⟩, ⟨by (with_reducible repeat (first | apply Kd.R_alloc | apply Kd.R_drewN | apply Kd.R_drew)); exact HO205.out⟩, ⟨by (with_reducible repeat (first | apply Kd.R_alloc | apply Kd.R_drewN | apply Kd.R_drew)); exact HO_6.out⟩, ⟨by (with_reducible repeat (first | refine blk_drewN ?_ _ | refine blk_drew ?_ | refine blk_alloc ?_ _)); exact BK198.out⟩, ⟨by (with_reducible repeat (first | refine blk_drewN ?_ _ | refine blk_drew ?_ | refine blk_alloc ?_ _)); exact BK202.out⟩, ⟨by repeat (first | (with_reducible first | exact HB.out | apply below_alloc | apply pw_below_drewN | apply below_drew1 | refine below_set ?_ GE198.out | refine below_set ?_ GE202.out) | exact HB.out)⟩⟩
          case rest =>
           clear HC16
           try clear c1
           try clear c2
           try clear p2
           try clear q2
           try clear hx2
           try clear c5
           try clear c6
           try clear p6
           try clear c9
           try clear c12
           try clear c12b0
           try clear c13
           try clear c13b0
           try clear c14
           try clear c14b0
           try clear c15
           try clear c18
           try clear p20
           try clear q20
           try clear hx20
           try clear c22
           try clear c22b0
           try clear c23
           try clear c23b0
           try clear c23b1
           try clear c25
           try clear hcz19_0
           try clear hcz19_1
           try clear hcz19_2
           try clear hcz19_3
           try clear hcz21_0
           try clear hcz21_1
           try clear hcz21_2
           try clear hcz21_3
           try clear hcz26_0
           try clear hcz26_1
           try clear hcz26_2
           try clear hcz26_3
           try clear hfz19_0
           try clear hfz19_1
           try clear hfz19_2
           try clear hfz19_3
           try clear hfz21_0
           try clear hfz21_1
           try clear hfz21_2
           try clear hfz21_3
           try clear hfz26_0
           try clear hfz26_1
           try clear hfz26_2
           try clear hfz26_3
           try clear hx201_0
           try clear hx201_1
           try clear hx201_2
           try clear hx201_3
           try clear p2
           try clear p201
           try clear q201
           obtain ⟨kq, x9_15, rfl, HA, HJ15, HO_5, HO_6, BK198, BK202, HB⟩ := hcut
           cases kq with
           | zero => exact absurd HA.out (by simp [comfittop_TopOrders.j2])
           | succ kj15 =>
            have H := HA.out
            clear HA
            simp only [comfittop_TopOrders.j2] at H
            by_cases c27 : ((rd_T44 l0 x28_2).f0) = 2
            ·rw [if_pos c27] at H
             have c27b0 : (((rd_T44 l0 x28_2).f0) == 2) = true := beq_iff_eq.mpr c27
             have c27b1 : (((rd_T44 l0 x28_2).f0) != 2) = false := bne_eq_false_iff_eq.mpr c27
             clear c27
             by_cases c28 : 0 ≤ ((rd_T44 l0 x28_2).f3)
             ·rw [if_pos c28] at H
              have c28b0 := eq_true c28
              have c28b1 : decide (0 ≤ ((rd_T44 l0 x28_2).f3)) = true := decide_eq_true c28
              clear c28
              obtain ⟨ji29, hji29⟩ : ∃ j_ : Int, (shl .i64 1 ((rd_T44 l0 x28_2).f3)) = j_ := ⟨_, rfl⟩
              replace H : (if x6_2.length < 17592186044416 then (comfittop_TopOrders.l0 kj15 l0 y203 (x6_2 ++ [Go.bits .or .i64 x9_15 (ji29)]) l0 (l0.length : Int) (wrap64 (x28_2 + 1)) a1_0 a1_1) else (none)) = some r := by first | (rw [hji29] at H; exact H) | (simp only [hji29] at H ⊢; exact H)
              have hji29_ : (IntKind.i64.wrap (1 * 2 ^ min ((rd_T44 l0 x28_2).f3).toNat 64)) = ji29 := hji29
              have hji29z : ((rd_T44 l0 x28_2).f3) ≤ 64 → (IntKind.i64.wrap (1 * 2 ^ ((rd_T44 l0 x28_2).f3).toNat)) = ji29 := shl_small hji29
              have hji29u : (IntKind.i64.wrap (2 ^ min ((rd_T44 l0 x28_2).f3).toNat 64)) = ji29 := by have h_ := hji29_; rw [Int.one_mul] at h_; exact h_
              have hji29v : ((rd_T44 l0 x28_2).f3) ≤ 64 → (IntKind.i64.wrap (2 ^ ((rd_T44 l0 x28_2).f3).toNat)) = ji29 := fun hle_ => by have h_ := hji29z hle_; rw [Int.one_mul] at h_; exact h_
              have hji29y : (wrap64 (1 * 2 ^ min ((rd_T44 l0 x28_2).f3).toNat 64)) = ji29 := (i64_w _).symm.trans hji29_
              have hji29x : ((rd_T44 l0 x28_2).f3) ≤ 64 → (wrap64 (1 * 2 ^ ((rd_T44 l0 x28_2).f3).toNat)) = ji29 := fun h_ => (i64_w _).symm.trans (hji29z h_)
              by_cases c30 : x6_2.length < 17592186044416
              ·rw [if_pos c30] at H
               have LMc30 := Aside0.mk c30
               clear c30
               obtain ⟨y206, hy206⟩ : ∃ y_ : List Int, y_ = (x6_2 ++ [Go.bits .or .i64 x9_15 (ji29)]) := ⟨_, rfl⟩
               replace H : (comfittop_TopOrders.l0 kj15 l0 y203 y206 l0 (l0.length : Int) (wrap64 (x28_2 + 1)) a1_0 a1_1) = some r := by first | (rw [hy206]; with_reducible exact H) | (have H2_ := (Option.bind_some _ _).symm.trans H; rw [hy206]; with_reducible exact H2_) | (have H2_ := (Option.bind_some _ _).symm.trans H; with_reducible exact H2_) | with_reducible exact H | (rw [hy206]; exact H) | exact H
               have Ny206 := Aside0.mk hy206
               clear hy206
               have H' := Aside0.mk H
               clear H
               have hnb31 := NB202_198.out
               have hnc31 := NB198_202.out
               have hcz32_0 : wc.cell? ⟨gb202, 0, none⟩ = some (.int .i64 ((rd_T44 l0 x28_2).f0)) := (blk_cell BK202.out 0).trans rfl
               have hcz32_1 : wc.cell? ⟨gb202, 1, none⟩ = some (.int .i64 ((rd_T44 l0 x28_2).f1)) := (blk_cell BK202.out 1).trans rfl
               have hcz32_2 : wc.cell? ⟨gb202, 2, none⟩ = some (.int .i64 ((rd_T44 l0 x28_2).f2)) := (blk_cell BK202.out 2).trans rfl
               have hcz32_3 : wc.cell? ⟨gb202, 3, none⟩ = some (.int .i64 ((rd_T44 l0 x28_2).f3)) := (blk_cell BK202.out 3).trans rfl
               have hfz32_0 := blk_frozen BK202.out 0
               have hfz32_1 := blk_frozen BK202.out 1
               have hfz32_2 := blk_frozen BK202.out 2
               have hfz32_3 := blk_frozen BK202.out 3
               go_wp2_with (first | ((with_reducible refine gate_builtin (b := .append) (xs := #[.tmp 60, .tmp 62]) rfl ?_); (try (refine gate_guard (by rfl) ?_; dsimp only)); at_builtin; refine Kd.R_append (Kd.int .i64) (w0 := w) w.heap.size rfl (.tmp 60) (.tmp 62) 23 3 (.int .i64 0) 8 rfl Try.underlying23 info3 rfl (by decide) (by omega) u6 x6_2 (Go.bits .or .i64 x9_15 (ji29)) [.int .i64 (Go.bits .or .i64 x9_15 (ji29))] (fun _ => True) (fun _ => False) rfl rfl ?aP (fun _ hk => hk.elim) ?aF ?aO ?aB ?aS ?aL ?_; (case aP => exact rfl); (case aB => exact (hb_ HB.out)); (case aF => exact (fun _ _ => trivial)); (case aO => exact (kr_ (HO_6.out))); (case aS => exact (below_size (hb_ HB.out))); (case aL => have := LMc30.out; omega); intro v207 w33 ho hb hg hat; rw [← Ny206.out] at ho; have n0_ := Aside0.mk (Kd.R_over' (kr_ (HO_5.out)) (Kd.R_typed (kr_ (HO_6.out))) (by decide) hg); have n1_ := Aside0.mk (blk_grown (g := gb198) (o := .cells #[.int .i64 a1_0, .int .i64 a1_1] 40 (0, 0)) (bk_ BK198.out) hg (Kd.R_ne HO_6.out BK198.out (by decide))); have n2_ := Aside0.mk (blk_grown (g := gb202) (o := .cells #[.int .i64 ((rd_T44 l0 x28_2).f0), .int .i64 ((rd_T44 l0 x28_2).f1), .int .i64 ((rd_T44 l0 x28_2).f2), .int .i64 ((rd_T44 l0 x28_2).f3)] 44 (0, 0)) (bk_ BK202.out) hg (Kd.R_ne HO_6.out BK202.out (by decide))); have n3_ := Aside0.mk (hb); have n4_ := Aside0.mk (ho); clear HO_5; clear BK198; clear BK202; clear HB; clear HO_6; have HO_5 := n0_; have BK198 := n1_; have BK202 := n2_; have HB := n3_; have HO208 := n4_; clear n0_ n1_ n2_ n3_ n4_; clear ho hb hg hat))
               go_roundg kj15
               case measure => have := HJ2.out; have := HK2.out; have := HJ15.out; omega
               case rel => exact ⟨(y203), (y206), (wrap64 (x28_2 + 1)), (by first | rfl | (simp; done) | (simp [*]; done)), H', ⟨by have := HJ2.out; have := HK2.out; have := HJ15.out; omega⟩, ⟨by (with_reducible repeat (first | apply Kd.R_alloc | apply Kd.R_drewN | apply Kd.R_drew)); exact HO_5.out⟩, ⟨by (with_reducible repeat (first | apply Kd.R_alloc | apply Kd.R_drewN | apply Kd.R_drew)); exact HO208.out⟩, ⟨by (with_reducible repeat (first | refine blk_drewN ?_ _ | refine blk_drew ?_ | refine blk_alloc ?_ _)); exact BK198.out⟩, ⟨by repeat (first | (with_reducible first | exact HB.out | apply below_alloc | apply pw_below_drewN | apply below_drew1 | refine below_set ?_ GE198.out | refine below_set ?_ GE202.out) | exact HB.out)⟩⟩
              ·rw [if_neg c30] at H
               exact absurd H (by simp)
             ·rw [if_neg c28] at H
              exact absurd H (by simp)
            ·rw [if_neg c27] at H
             have c27b0 : (((rd_T44 l0 x28_2).f0) == 2) = false := beq_eq_false_iff_ne.mpr c27
             have c27b1 : (((rd_T44 l0 x28_2).f0) != 2) = true := bne_iff_ne.mpr c27
             by_cases c34 : x6_2.length < 17592186044416
             ·rw [if_pos c34] at H
              have LMc34 := Aside0.mk c34
              clear c34
              obtain ⟨y209, hy209⟩ : ∃ y_ : List Int, y_ = (x6_2 ++ [x9_15]) := ⟨_, rfl⟩
              replace H : (comfittop_TopOrders.l0 kj15 l0 y203 y209 l0 (l0.length : Int) (wrap64 (x28_2 + 1)) a1_0 a1_1) = some r := by first | (rw [hy209]; with_reducible exact H) | (have H2_ := (Option.bind_some _ _).symm.trans H; rw [hy209]; with_reducible exact H2_) | (have H2_ := (Option.bind_some _ _).symm.trans H; with_reducible exact H2_) | with_reducible exact H | (rw [hy209]; exact H) | exact H
              have Ny209 := Aside0.mk hy209
              clear hy209
              have H' := Aside0.mk H
              clear H
              have hnb35 := NB202_198.out
              have hnc35 := NB198_202.out
              have hcz36_0 : wc.cell? ⟨gb202, 0, none⟩ = some (.int .i64 ((rd_T44 l0 x28_2).f0)) := (blk_cell BK202.out 0).trans rfl
              have hcz36_1 : wc.cell? ⟨gb202, 1, none⟩ = some (.int .i64 ((rd_T44 l0 x28_2).f1)) := (blk_cell BK202.out 1).trans rfl
              have hcz36_2 : wc.cell? ⟨gb202, 2, none⟩ = some (.int .i64 ((rd_T44 l0 x28_2).f2)) := (blk_cell BK202.out 2).trans rfl
              have hcz36_3 : wc.cell? ⟨gb202, 3, none⟩ = some (.int .i64 ((rd_T44 l0 x28_2).f3)) := (blk_cell BK202.out 3).trans rfl
              have hfz36_0 := blk_frozen BK202.out 0
              have hfz36_1 := blk_frozen BK202.out 1
              have hfz36_2 := blk_frozen BK202.out 2
              have hfz36_3 := blk_frozen BK202.out 3
              go_wp2_with (first | ((with_reducible refine gate_builtin (b := .append) (xs := #[.tmp 60, .tmp 62]) rfl ?_); (try (refine gate_guard (by rfl) ?_; dsimp only)); at_builtin; refine Kd.R_append (Kd.int .i64) (w0 := w) w.heap.size rfl (.tmp 60) (.tmp 62) 23 3 (.int .i64 0) 8 rfl Try.underlying23 info3 rfl (by decide) (by omega) u6 x6_2 x9_15 [.int .i64 x9_15] (fun _ => True) (fun _ => False) rfl rfl ?aP (fun _ hk => hk.elim) ?aF ?aO ?aB ?aS ?aL ?_; (case aP => exact rfl); (case aB => exact (hb_ HB.out)); (case aF => exact (fun _ _ => trivial)); (case aO => exact (kr_ (HO_6.out))); (case aS => exact (below_size (hb_ HB.out))); (case aL => have := LMc34.out; omega); intro v210 w37 ho hb hg hat; rw [← Ny209.out] at ho; have n0_ := Aside0.mk (Kd.R_over' (kr_ (HO_5.out)) (Kd.R_typed (kr_ (HO_6.out))) (by decide) hg); have n1_ := Aside0.mk (blk_grown (g := gb198) (o := .cells #[.int .i64 a1_0, .int .i64 a1_1] 40 (0, 0)) (bk_ BK198.out) hg (Kd.R_ne HO_6.out BK198.out (by decide))); have n2_ := Aside0.mk (blk_grown (g := gb202) (o := .cells #[.int .i64 ((rd_T44 l0 x28_2).f0), .int .i64 ((rd_T44 l0 x28_2).f1), .int .i64 ((rd_T44 l0 x28_2).f2), .int .i64 ((rd_T44 l0 x28_2).f3)] 44 (0, 0)) (bk_ BK202.out) hg (Kd.R_ne HO_6.out BK202.out (by decide))); have n3_ := Aside0.mk (hb); have n4_ := Aside0.mk (ho); clear HO_5; clear BK198; clear BK202; clear HB; clear HO_6; have HO_5 := n0_; have BK198 := n1_; have BK202 := n2_; have HB := n3_; have HO211 := n4_; clear n0_ n1_ n2_ n3_ n4_; clear ho hb hg hat))
              go_roundg kj15
              case measure => have := HJ2.out; have := HK2.out; have := HJ15.out; omega
              case rel => exact ⟨(y203), (y209), (wrap64 (x28_2 + 1)), (by first | rfl | (simp; done) | (simp [*]; done)), H', ⟨by have := HJ2.out; have := HK2.out; have := HJ15.out; omega⟩, ⟨by (with_reducible repeat (first | apply Kd.R_alloc | apply Kd.R_drewN | apply Kd.R_drew)); exact HO_5.out⟩, ⟨by (with_reducible repeat (first | apply Kd.R_alloc | apply Kd.R_drewN | apply Kd.R_drew)); exact HO211.out⟩, ⟨by (with_reducible repeat (first | refine blk_drewN ?_ _ | refine blk_drew ?_ | refine blk_alloc ?_ _)); exact BK198.out⟩, ⟨by repeat (first | (with_reducible first | exact HB.out | apply below_alloc | apply pw_below_drewN | apply below_drew1 | refine below_set ?_ GE198.out | refine below_set ?_ GE202.out) | exact HB.out)⟩⟩
             ·rw [if_neg c34] at H
              exact absurd H (by simp)
         ·rw [if_neg c15] at H
          exact absurd H (by simp)
        ·rw [if_neg c14] at H
         exact absurd H (by simp)
       ·rw [if_neg c13] at H
        exact absurd H (by simp)
      ·rw [if_neg c12] at H
       have c12b0 : decide (x28_2 < (l0.length : Int)) = false := decide_eq_false c12
       clear c12
       replace H := Option.bind_eq_some_iff.mp H
       obtain ⟨t212, A380, H⟩ := H
       replace H : ((tags_Fewer.f t212).bind fun bt215 => ((comfittop_reached.f k2 x6_2).bind fun t219 => (if bt215.2 = 0 then (if t219 < 1 then (comfittop_TopOrders.j3 k2 l0 x5_2 t219 true a1_0 a1_1) else ((comfittop_size.f k2 t219).bind fun t220 => (comfittop_TopOrders.j3 k2 l0 x5_2 t219 ((bt215.1.length : Int) != t220) a1_0 a1_1))) else (comfittop_TopOrders.j3 k2 l0 x5_2 t219 true a1_0 a1_1)))) = some r := H
       have A38 := Aside0.mk A380
       clear A380
       replace H := Option.bind_eq_some_iff.mp H
       obtain ⟨⟨t215, t216⟩, A390, H⟩ := H
       replace H : ((comfittop_reached.f k2 x6_2).bind fun t219 => (if t216 = 0 then (if t219 < 1 then (comfittop_TopOrders.j3 k2 l0 x5_2 t219 true a1_0 a1_1) else ((comfittop_size.f k2 t219).bind fun t220 => (comfittop_TopOrders.j3 k2 l0 x5_2 t219 ((t215.length : Int) != t220) a1_0 a1_1))) else (comfittop_TopOrders.j3 k2 l0 x5_2 t219 true a1_0 a1_1))) = some r := H
       have A39 := Aside0.mk A390
       clear A390
       replace H := Option.bind_eq_some_iff.mp H
       obtain ⟨t219, A400, H⟩ := H
       replace H : (if t216 = 0 then (if t219 < 1 then (comfittop_TopOrders.j3 k2 l0 x5_2 t219 true a1_0 a1_1) else ((comfittop_size.f k2 t219).bind fun t220 => (comfittop_TopOrders.j3 k2 l0 x5_2 t219 ((t215.length : Int) != t220) a1_0 a1_1))) else (comfittop_TopOrders.j3 k2 l0 x5_2 t219 true a1_0 a1_1)) = some r := H
       have A40 := Aside0.mk A400
       clear A400
       have HC41 := Aside0.mk H
       clear H
       obtain ⟨Ao42, co42, eo42⟩ := Kd.R_slice HO_5.out
       subst eo42
       go_upto_region 18 with (first | ((with_reducible refine gate_callee (f := 16) rfl ?_); refine goesL_ (some 67) rfl rfl Try.func16 (by kernel_rfl) rfl #[.slice Ao42 x5_2.length co42] rfl al_ ?_; (with_reducible refine (tags_Order.calls _ _ x5_2 t212 _ ?side1 ?side2 A38.out).mono ?_); (case side1 => exact kc_ (Kd.R_reads' HO_5.out).2.2); (case side2 => exact (Kd.R_reads' HO_5.out).2.1); rintro e w43 ⟨v213, rfl, ho0, hb⟩; refine ⟨_, rfl, ?_⟩; have n0_ := Aside0.mk (Kd.R_elder' (kr_ (HO_5.out)) (Kd.R_base ho0) hb); have n1_ := Aside0.mk (Kd.R_below (kr_ (HO_6.out)) hb); have n2_ := Aside0.mk (Kd.R_lower (Kd.R_new' ho0 (Kd.R_lt (kr_ (HO_5.out)))) (below_size (hb_ HB.out))); have n3_ := Aside0.mk (bkb_ BK198.out hb); have n4_ := Aside0.mk (below_step (hb_ HB.out) hb); clear HO_5; clear HO_6; clear BK198; clear HB; have HO_5 := n0_; have HO_6 := n1_; have HO214 := n2_; have BK198 := n3_; have HB := n4_; clear n0_ n1_ n2_ n3_ n4_; (try clear hb); (try clear hb2); (try clear hk); (try clear hi); (try clear ho0); obtain ⟨Ao44, co44, eo44⟩ := Kd.R_slice HO214.out; subst eo44) | ((with_reducible refine gate_callee (f := 15) rfl ?_); refine goesL_ (some 68) rfl rfl Try.func15 (by kernel_rfl) rfl #[.slice Ao44 t212.length co44] rfl al_ ?_; (with_reducible refine (tags_Fewer.calls _ _ t212 t215 t216 _ ?side1 ?side2 A39.out).mono ?_); (case side1 => exact kc_ (Kd.R_reads' HO214.out).2.2); (case side2 => exact (Kd.R_reads' HO214.out).2.1); rintro e w45 ⟨v217, rfl, ho0, hb⟩; refine ⟨_, rfl, ?_⟩; have n0_ := Aside0.mk (Kd.R_elder' (kr_ (HO_5.out)) (Kd.R_base ho0) hb); have n1_ := Aside0.mk (Kd.R_below (kr_ (HO_6.out)) hb); have n2_ := Aside0.mk (Kd.R_elder' (kr_ (HO214.out)) (Kd.R_base ho0) hb); have n3_ := Aside0.mk (Kd.R_lower (Kd.R_new' (Kd.R_new' ho0 (Kd.R_lt (kr_ (HO_5.out)))) (Kd.R_lt (kr_ (HO214.out)))) (below_size (hb_ HB.out))); have n4_ := Aside0.mk (bkb_ BK198.out hb); have n5_ := Aside0.mk (below_step (hb_ HB.out) hb); clear HO_5; clear HO_6; clear HO214; clear BK198; clear HB; have HO_5 := n0_; have HO_6 := n1_; have HO214 := n2_; have HO218 := n3_; have BK198 := n4_; have HB := n5_; clear n0_ n1_ n2_ n3_ n4_ n5_; (try clear hb); (try clear hb2); (try clear hk); (try clear hi); (try clear ho0); obtain ⟨Ao46, co46, eo46⟩ := Kd.R_slice HO_6.out; subst eo46) | ((with_reducible refine gate_callee (f := 17) rfl ?_); refine goesL_ (some 72) rfl rfl Try.func17 (by kernel_rfl) rfl #[.slice Ao46 x6_2.length co46] rfl al_ ?_; (with_reducible refine (comfittop_reached.calls k2 _ _ x6_2 t219 _ ?side1 ?side2 A40.out).mono ?_); (case side1 => exact kc_ (Kd.R_reads' HO_6.out).2.2); (case side2 => exact (Kd.R_reads' HO_6.out).2.1); rintro e w47 ⟨rfl, hb⟩; refine ⟨_, rfl, ?_⟩; have n0_ := Aside0.mk (Kd.R_below (kr_ (HO_5.out)) hb); have n1_ := Aside0.mk (Kd.R_below (kr_ (HO_6.out)) hb); have n2_ := Aside0.mk (Kd.R_below (kr_ (HO214.out)) hb); have n3_ := Aside0.mk (Kd.R_below (kr_ (HO218.out)) hb); have n4_ := Aside0.mk (bkb_ BK198.out hb); have n5_ := Aside0.mk (below_step (hb_ HB.out) hb); clear HO_5; clear HO_6; clear HO214; clear HO218; clear BK198; clear HB; have HO_5 := n0_; have HO_6 := n1_; have HO214 := n2_; have HO218 := n3_; have BK198 := n4_; have HB := n5_; clear n0_ n1_ n2_ n3_ n4_ n5_; (try clear hb); (try clear hb2); (try clear hk); (try clear hi)))
       (try simp only [Act.put, List.setIfInBounds_toArray, List.set_cons_zero, List.set_cons_succ])
       go_cut [85] (fun v85 wc => ∃ (kq : Nat) (x85_40 : Bool), v85 = .bool x85_40 ∧ Aside0 (comfittop_TopOrders.j3 kq l0 x5_2 t219 x85_40 a1_0 a1_1 = some r) ∧ Aside0 (kq ≤ k2) ∧ Aside0 (Kd.R k45 45 wc w.heap.size (fun _ => True) (.slice Ao42 x5_2.length co42) x5_2) ∧ Aside0 (wc.heap[gb198]? = some (.cells #[.int .i64 a1_0, .int .i64 a1_1] 40 (0, 0))) ∧ Aside0 (Below w.heap.size w wc))
       case first =>
        have H := HC41.out
        clear HC41
        by_cases c48 : t216 = 0
        ·rw [if_pos c48] at H
         have c48b0 : (t216 == 0) = true := beq_iff_eq.mpr c48
         have c48b1 : (t216 != 0) = false := bne_eq_false_iff_eq.mpr c48
         clear c48
         (first | rw [c48b0] | (simp only [i64_w, i32_w]; rw [c48b0]) | skip)
         by_cases c49 : t219 < 1
         ·rw [if_pos c49] at H
          have c49b0 : decide (t219 < 1) = true := decide_eq_true c49
          clear c49
          have H' := Aside0.mk H
          clear H
          go_wp2
          go_meet
          case rel => exact ⟨_, (true), (by first | rfl | (simp; done) | (simp [*]; done)), H', ⟨by have := HJ2.out; have := HK2.out; first | omega | exact Nat.le_refl _⟩, ⟨by (with_reducible repeat (first | apply Kd.R_alloc | apply Kd.R_drewN | apply Kd.R_drew)); exact Kd.R_mono HO_5.out (fun _ hk => trivial)⟩, ⟨by (with_reducible repeat (first | refine blk_drewN ?_ _ | refine blk_drew ?_ | refine blk_alloc ?_ _)); exact BK198.out⟩, ⟨by repeat (first | (with_reducible first | exact HB.out | apply below_alloc | apply pw_below_drewN | apply below_drew1 | refine below_set ?_ GE198.out) | exact HB.out)⟩⟩
         ·rw [if_neg c49] at H
          have c49b0 : decide (t219 < 1) = false := decide_eq_false c49
          clear c49
          replace H := Option.bind_eq_some_iff.mp H
          obtain ⟨t220, A500, H⟩ := H
          replace H : (comfittop_TopOrders.j3 k2 l0 x5_2 t219 ((t215.length : Int) != t220) a1_0 a1_1) = some r := H
          have A50 := Aside0.mk A500
          clear A500
          have H' := Aside0.mk H
          clear H
          obtain ⟨Ao51, co51, eo51⟩ := Kd.R_slice HO218.out
          subst eo51
          go_wp2_with (first | (go_at_call 18; (with_reducible refine (comfittop_size.calls k2 t219 t220 _ A50.out).mono ?_); rintro e w' ⟨rfl, ⟨nd, rfl⟩⟩))
          go_meet
          case rel => exact ⟨_, (((t215.length : Int) != t220)), (by first | rfl | (simp; done) | (simp [*]; done)), H', ⟨by have := HJ2.out; have := HK2.out; first | omega | exact Nat.le_refl _⟩, ⟨by (with_reducible repeat (first | apply Kd.R_alloc | apply Kd.R_drewN | apply Kd.R_drew)); exact Kd.R_mono HO_5.out (fun _ hk => trivial)⟩, ⟨by (with_reducible repeat (first | refine blk_drewN ?_ _ | refine blk_drew ?_ | refine blk_alloc ?_ _)); exact BK198.out⟩, ⟨by repeat (first | (with_reducible first | exact HB.out | apply below_alloc | apply pw_below_drewN | apply below_drew1 | refine below_set ?_ GE198.out) | exact HB.out)⟩⟩
        ·rw [if_neg c48] at H
         have c48b0 : (t216 == 0) = false := beq_eq_false_iff_ne.mpr c48
         have c48b1 : (t216 != 0) = true := bne_iff_ne.mpr c48
         (first | rw [c48b0] | (simp only [i64_w, i32_w]; rw [c48b0]) | skip)
         have H' := Aside0.mk H
         clear H
         go_wp2
         go_meet
         case rel => exact ⟨_, (true), (by first | rfl | (simp; done) | (simp [*]; done)), H', ⟨by have := HJ2.out; have := HK2.out; first | omega | exact Nat.le_refl _⟩, ⟨by (with_reducible repeat (first | apply Kd.R_alloc | apply Kd.R_drewN | apply Kd.R_drew)); exact Kd.R_mono HO_5.out (fun _ hk => trivial)⟩, ⟨by (with_reducible repeat (first | refine blk_drewN ?_ _ | refine blk_drew ?_ | refine blk_alloc ?_ _)); exact BK198.out⟩, ⟨by repeat (first | (with_reducible first | exact HB.out | apply below_alloc | apply pw_below_drewN | apply below_drew1 | refine below_set ?_ GE198.out) | exact HB.out)⟩⟩
       case rest =>
        clear HC41
        try clear c1
        try clear c2
        try clear p2
        try clear q2
        try clear hx2
        try clear c3
        try clear c4
        try clear c5
        try clear c6
        try clear p6
        try clear c9
        try clear c12
        try clear c12b0
        try clear c13
        try clear c13b0
        try clear c14
        try clear c14b0
        try clear c15
        try clear c16
        try clear c17
        try clear c18
        try clear p20
        try clear q20
        try clear hx20
        try clear c22
        try clear c22b0
        try clear c23
        try clear c23b0
        try clear c23b1
        try clear c25
        try clear c27
        try clear c27b0
        try clear c27b1
        try clear c28
        try clear c28b0
        try clear c28b1
        try clear c30
        try clear c31
        try clear c34
        try clear c35
        try clear c48
        try clear c48b0
        try clear c48b1
        try clear c49
        try clear c49b0
        try clear hcz19_0
        try clear hcz19_1
        try clear hcz19_2
        try clear hcz19_3
        try clear hcz21_0
        try clear hcz21_1
        try clear hcz21_2
        try clear hcz21_3
        try clear hcz26_0
        try clear hcz26_1
        try clear hcz26_2
        try clear hcz26_3
        try clear hcz32_0
        try clear hcz32_1
        try clear hcz32_2
        try clear hcz32_3
        try clear hcz36_0
        try clear hcz36_1
        try clear hcz36_2
        try clear hcz36_3
        try clear hfz19_0
        try clear hfz19_1
        try clear hfz19_2
        try clear hfz19_3
        try clear hfz21_0
        try clear hfz21_1
        try clear hfz21_2
        try clear hfz21_3
        try clear hfz26_0
        try clear hfz26_1
        try clear hfz26_2
        try clear hfz26_3
        try clear hfz32_0
        try clear hfz32_1
        try clear hfz32_2
        try clear hfz32_3
        try clear hfz36_0
        try clear hfz36_1
        try clear hfz36_2
        try clear hfz36_3
        try clear hx201_0
        try clear hx201_1
        try clear hx201_2
        try clear hx201_3
        try clear p2
        try clear p20
        try clear p201
        try clear p6
        try clear q2
        try clear q20
        try clear q201
        obtain ⟨kq, x85_40, rfl, HA, HJ40, HO_5, BK198, HB⟩ := hcut
        cases kq with
        | zero => exact absurd HA.out (by simp [comfittop_TopOrders.j3])
        | succ kj40 =>
         have H := HA.out
         clear HA
         simp only [comfittop_TopOrders.j3] at H
         by_cases c52 : x85_40 = true
         ·subst c52
          have H1 : (none) = some r := by rw [if_pos rfl] at H; exact H
          clear H
          have H := H1
          clear H1
          exact absurd H (by simp)
         ·replace c52 := Bool.eq_false_iff.mpr c52
          subst c52
          have H1 : ((tags_Order.f x5_2).bind fun t221 => ((tags_Ends.f kj40 t221 a1_0 a1_1).bind fun bt224 => (if bt224.2 = 0 then ((tags_Go.f kj40 x5_2 a1_0 a1_1 bt224.1).bind fun bt228 => (if bt228.2.2.2.2 = 0 then (if bt228.2.2.2.1 = bt224.1 then (if bt228.1 ≥ 0 then (if bt228.1 < (l0.length : Int) then (if 0 ≤ bt228.1 then (if ((rd_T44 l0 bt228.1).f0) = 0 then (if (Go.bits .and .i64 (shr .i64 t219 bt228.1) 1) = 1 then ((comfittop_marks.f).bind fun t235 => (some t235)) else (none)) else (none)) else (none)) else (none)) else (none)) else (none)) else (none))) else (if bt224.2 = 4 then ((comfittop_marks.f).bind fun t226 => (some t226)) else (if bt224.2 = 2 then ((comfittop_marks.f).bind fun t227 => (some t227)) else (none)))))) = some r := by rw [if_neg (show ¬ (false = true) by decide)] at H; exact H
          clear H
          have H := H1
          clear H1
          replace H := Option.bind_eq_some_iff.mp H
          obtain ⟨t221, A530, H⟩ := H
          replace H : ((tags_Ends.f kj40 t221 a1_0 a1_1).bind fun bt224 => (if bt224.2 = 0 then ((tags_Go.f kj40 x5_2 a1_0 a1_1 bt224.1).bind fun bt228 => (if bt228.2.2.2.2 = 0 then (if bt228.2.2.2.1 = bt224.1 then (if bt228.1 ≥ 0 then (if bt228.1 < (l0.length : Int) then (if 0 ≤ bt228.1 then (if ((rd_T44 l0 bt228.1).f0) = 0 then (if (Go.bits .and .i64 (shr .i64 t219 bt228.1) 1) = 1 then ((comfittop_marks.f).bind fun t235 => (some t235)) else (none)) else (none)) else (none)) else (none)) else (none)) else (none)) else (none))) else (if bt224.2 = 4 then ((comfittop_marks.f).bind fun t226 => (some t226)) else (if bt224.2 = 2 then ((comfittop_marks.f).bind fun t227 => (some t227)) else (none))))) = some r := H
          have A53 := Aside0.mk A530
          clear A530
          replace H := Option.bind_eq_some_iff.mp H
          obtain ⟨⟨t224, t225⟩, A540, H⟩ := H
          replace H : (if t225 = 0 then ((tags_Go.f kj40 x5_2 a1_0 a1_1 t224).bind fun bt228 => (if bt228.2.2.2.2 = 0 then (if bt228.2.2.2.1 = t224 then (if bt228.1 ≥ 0 then (if bt228.1 < (l0.length : Int) then (if 0 ≤ bt228.1 then (if ((rd_T44 l0 bt228.1).f0) = 0 then (if (Go.bits .and .i64 (shr .i64 t219 bt228.1) 1) = 1 then ((comfittop_marks.f).bind fun t235 => (some t235)) else (none)) else (none)) else (none)) else (none)) else (none)) else (none)) else (none))) else (if t225 = 4 then ((comfittop_marks.f).bind fun t226 => (some t226)) else (if t225 = 2 then ((comfittop_marks.f).bind fun t227 => (some t227)) else (none)))) = some r := H
          have A54 := Aside0.mk A540
          clear A540
          by_cases c55 : t225 = 0
          ·rw [if_pos c55] at H
           have c55b0 : (t225 == 0) = true := beq_iff_eq.mpr c55
           have c55b1 : (t225 != 0) = false := bne_eq_false_iff_eq.mpr c55
           clear c55
           replace H := Option.bind_eq_some_iff.mp H
           obtain ⟨⟨t228, t229, t230, t231, t232⟩, A560, H⟩ := H
           replace H : (if t232 = 0 then (if t231 = t224 then (if t228 ≥ 0 then (if t228 < (l0.length : Int) then (if 0 ≤ t228 then (if ((rd_T44 l0 t228).f0) = 0 then (if (Go.bits .and .i64 (shr .i64 t219 t228) 1) = 1 then ((comfittop_marks.f).bind fun t235 => (some t235)) else (none)) else (none)) else (none)) else (none)) else (none)) else (none)) else (none)) = some r := H
           have A56 := Aside0.mk A560
           clear A560
           by_cases c57 : t232 = 0
           ·rw [if_pos c57] at H
            have c57b0 : (t232 == 0) = true := beq_iff_eq.mpr c57
            have c57b1 : (t232 != 0) = false := bne_eq_false_iff_eq.mpr c57
            clear c57
            by_cases c58 : t231 = t224
            ·rw [if_pos c58] at H
             have c58b0 : (t231 == t224) = true := beq_iff_eq.mpr c58
             have c58b1 : (t231 != t224) = false := bne_eq_false_iff_eq.mpr c58
             clear c58
             by_cases c59 : t228 ≥ 0
             ·rw [if_pos c59] at H
              have c59b0 : decide (0 ≤ t228) = true := decide_eq_true c59
              clear c59
              by_cases c60 : t228 < (l0.length : Int)
              ·rw [if_pos c60] at H
               have c60b0 : decide (t228 < (l0.length : Int)) = true := decide_eq_true c60
               clear c60
               by_cases c61 : 0 ≤ t228
               ·rw [if_pos c61] at H
                have c61b0 : decide (0 ≤ t228) = true := decide_eq_true c61
                clear c61
                by_cases c62 : ((rd_T44 l0 t228).f0) = 0
                ·rw [if_pos c62] at H
                 have c62b0 : (((rd_T44 l0 t228).f0) == 0) = true := beq_iff_eq.mpr c62
                 have c62b1 : (((rd_T44 l0 t228).f0) != 0) = false := bne_eq_false_iff_eq.mpr c62
                 clear c62
                 have c63b0 := eq_true (of_decide_eq_true (by first | (with_reducible assumption) | assumption) : 0 ≤ t228)
                 obtain ⟨ji64, hji64⟩ : ∃ j_ : Int, (shr .i64 t219 t228) = j_ := ⟨_, rfl⟩
                 replace H : (if (Go.bits .and .i64 (ji64) 1) = 1 then ((comfittop_marks.f).bind fun t235 => (some t235)) else (none)) = some r := by first | (rw [hji64] at H; exact H) | (simp only [hji64] at H ⊢; exact H)
                 (try rw [hji64] at A53)
                 (try rw [hji64] at A54)
                 (try rw [hji64] at A56)
                 have hji64_ : (t219 / 2 ^ min t228.toNat 64) = ji64 := hji64
                 have hji64z : t228 ≤ 64 → (t219 / 2 ^ t228.toNat) = ji64 := shr_small hji64
                 by_cases c65 : (Go.bits .and .i64 (ji64) 1) = 1
                 ·rw [if_pos c65] at H
                  have c65b0 : ((Go.bits .and .i64 (ji64) 1) == 1) = true := beq_iff_eq.mpr c65
                  have c65b1 : ((Go.bits .and .i64 (ji64) 1) != 1) = false := bne_eq_false_iff_eq.mpr c65
                  clear c65
                  replace H := Option.bind_eq_some_iff.mp H
                  obtain ⟨t235, A660, H⟩ := H
                  replace H : (some t235) = some r := H
                  have A66 := Aside0.mk A660
                  clear A660
                  obtain rfl := Option.some.inj H
                  try go_wp2
                  have n0_ := Aside0.mk (Kd.R_drew HO_5.out)
                  have n1_ := Aside0.mk (blk_drew BK198.out)
                  have n2_ := Aside0.mk (below_drew1 HB.out)
                  clear HO_5
                  clear BK198
                  clear HB
                  have HO_5 := n0_
                  have BK198 := n1_
                  have HB := n2_
                  clear n0_ n1_ n2_
                  refine start_ (n := 9) (S := fun w' => w'.cell? ⟨gb198, 0, none⟩ = some (.int .i64 a1_0) ∧ w'.cell? ⟨gb198, 1, none⟩ = some (.int .i64 a1_1)) (ds := []) #[false, false, false, false, false, false, false, false, false] (by kernel_rfl) rfl rfl ⟨(blk_cell BK198.out 0).trans rfl, (blk_cell BK198.out 1).trans rfl⟩ (fun hHeld => ?_); refine with_tabW comfittop_TopOrders.tab20 comfittop_TopOrders.bits20 (fun HT_ HW_ => ?_)
                  generalize wc.drew = w67 at HO_5 BK198 HB hHeld ⊢
                  refine pure_ (i := 0) (N := some 87) (v := ?_) (a' := ?_) #[true, false, false, false, false, false, false, false, false] rfl rfl (any_of HT_.out (by kernel_rfl)) (fun _ _ _ h => h) (Or.inl ⟨by rfl, ?_⟩) ?_ ?_
                  rotate_left
                  ·intro w'
                   go_simp
                   with_reducible rfl
                  rotate_left
                  ·simp only [Act.put, List.setIfInBounds_toArray, List.set_cons_zero, List.set_cons_succ, i64_w, i32_w]
                   rfl
                  refine take_ (i := 2) (N := some 89) (v := ?_) (a' := ?_) #[true, false, true, false, false, false, false, false, false] rfl rfl (take_ofW HT_.out HW_.out (by kernel_rfl)) (fun _ _ _ h => h) (Or.inl ⟨by rfl, ?_⟩) hHeld ?_ ?_
                  rotate_left
                  ·rintro w' ⟨s0, s1⟩
                   go_simp
                   with_reducible rfl
                  rotate_left
                  ·simp only [Act.put, List.setIfInBounds_toArray, List.set_cons_zero, List.set_cons_succ, i64_w, i32_w]
                   rfl
                  refine one_ (i := 1) (N := some 88) #[true, true, true, false, false, false, false, false, false] rfl rfl (one_of HT_.out (by kernel_rfl)) (by decide) (fun K hK => ?_)
                  refine goes_ Try.func16 (by kernel_rfl) rfl #[.slice Ao42 x5_2.length co42] (by rfl) rfl rfl al_ ?_
                  with_reducible refine (tags_Order.calls _ _ x5_2 t221 _ ?side1 ?side2 A53.out).mono ?_
                  (case side1 => exact kc_ (Kd.R_reads' HO_5.out).2.2)
                  (case side2 => exact (Kd.R_reads' HO_5.out).2.1)
                  rintro e w68 ⟨v222, rfl, ho0, hb⟩
                  refine ⟨_, rfl, ?_⟩
                  have n0_ := Aside0.mk (Kd.R_elder' (kr_ (HO_5.out)) (Kd.R_base ho0) hb)
                  have n1_ := Aside0.mk (Kd.R_lower (Kd.R_new' ho0 (Kd.R_lt (kr_ (HO_5.out)))) (below_size (hb_ HB.out)))
                  have n2_ := Aside0.mk (bkb_ BK198.out hb)
                  have n3_ := Aside0.mk (below_step (hb_ HB.out) hb)
                  clear HO_5
                  clear BK198
                  clear HB
                  have HO_5 := n0_
                  have HO223 := n1_
                  have BK198 := n2_
                  have HB := n3_
                  clear n0_ n1_ n2_ n3_
                  (try clear hb)
                  (try clear hb2)
                  (try clear hk)
                  (try clear hi)
                  (try clear ho0)
                  obtain ⟨Ao69, co69, eo69⟩ := Kd.R_slice HO223.out
                  (first | subst eo69 | (injection eo69 with f1_ f2_ f3_; have f4_ := f1_.symm; have f5_ := f3_.symm; clear f1_ f2_ f3_; subst f4_; subst f5_))
                  refine hK.out _ _ ⟨(blk_cell BK198.out 0).trans rfl, (blk_cell BK198.out 1).trans rfl⟩ (fun hHeld => ?_)
                  clear hK K
                  refine norm_ (a' := ?_) ?_ ?_
                  rotate_left
                  ·show Act.put _ (some 88) _ = _
                   simp only [Act.put, List.setIfInBounds_toArray, List.set_cons_zero, List.set_cons_succ, i64_w, i32_w]
                   rfl
                  refine one_ (i := 3) (N := some 90) #[true, true, true, true, false, false, false, false, false] rfl rfl (one_of HT_.out (by kernel_rfl)) (by decide) (fun K hK => ?_)
                  refine goes_ Try.func19 (by kernel_rfl) rfl #[.slice Ao69 t221.length co69, .agg #[.int .i64 a1_0, .int .i64 a1_1]] (by rfl) rfl rfl al_ ?_
                  with_reducible refine (tags_Ends.calls kj40 _ _ t221 a1_0 a1_1 t224 t225 _ ?side1 ?side2 A54.out).mono ?_
                  (case side1 => exact kc_ (Kd.R_reads' HO223.out).2.2)
                  (case side2 => exact (Kd.R_reads' HO223.out).2.1)
                  rintro e w70 ⟨rfl, hb⟩
                  refine ⟨_, rfl, ?_⟩
                  have n0_ := Aside0.mk (Kd.R_below (kr_ (HO_5.out)) hb)
                  have n1_ := Aside0.mk (Kd.R_below (kr_ (HO223.out)) hb)
                  have n2_ := Aside0.mk (bkb_ BK198.out hb)
                  have n3_ := Aside0.mk (below_step (hb_ HB.out) hb)
                  clear HO_5
                  clear HO223
                  clear BK198
                  clear HB
                  have HO_5 := n0_
                  have HO223 := n1_
                  have BK198 := n2_
                  have HB := n3_
                  clear n0_ n1_ n2_ n3_
                  (try clear hb)
                  (try clear hb2)
                  (try clear hk)
                  (try clear hi)
                  refine hK.out _ _ ⟨(blk_cell BK198.out 0).trans rfl, (blk_cell BK198.out 1).trans rfl⟩ (fun hHeld => ?_)
                  clear hK K
                  refine norm_ (a' := ?_) ?_ ?_
                  rotate_left
                  ·show Act.put _ (some 90) _ = _
                   simp only [Act.put, List.setIfInBounds_toArray, List.set_cons_zero, List.set_cons_succ, i64_w, i32_w]
                   rfl
                  refine pure_ (i := 4) (N := some 86) (v := ?_) (a' := ?_) #[true, true, true, true, true, false, false, false, false] rfl rfl (any_of HT_.out (by kernel_rfl)) (fun _ _ _ h => h) (Or.inl ⟨by rfl, ?_⟩) ?_ ?_
                  rotate_left
                  ·intro w'
                   go_simp
                   with_reducible rfl
                  rotate_left
                  ·simp only [Act.put, List.setIfInBounds_toArray, List.set_cons_zero, List.set_cons_succ, i64_w, i32_w]
                   rfl
                  refine pure_ (i := 5) (N := some 91) (v := ?_) (a' := ?_) #[true, true, true, true, true, true, false, false, false] rfl rfl (any_of HT_.out (by kernel_rfl)) (fun _ _ _ h => h) (Or.inl ⟨by rfl, ?_⟩) ?_ ?_
                  rotate_left
                  ·intro w'
                   go_simp
                   with_reducible rfl
                  rotate_left
                  ·simp only [Act.put, List.setIfInBounds_toArray, List.set_cons_zero, List.set_cons_succ, i64_w, i32_w]
                   rfl
                  refine pure_ (i := 6) (N := some 92) (v := ?_) (a' := ?_) #[true, true, true, true, true, true, true, false, false] rfl rfl (any_of HT_.out (by kernel_rfl)) (fun _ _ _ h => h) (Or.inl ⟨by rfl, ?_⟩) ?_ ?_
                  rotate_left
                  ·intro w'
                   go_simp
                   with_reducible rfl
                  rotate_left
                  ·simp only [Act.put, List.setIfInBounds_toArray, List.set_cons_zero, List.set_cons_succ, i64_w, i32_w]
                   rfl
                  refine pure_ (i := 7) (N := some 13) (v := ?_) (a' := ?_) #[true, true, true, true, true, true, true, true, false] rfl rfl (any_of HT_.out (by kernel_rfl)) (fun _ _ _ h => h) (Or.inl ⟨by rfl, ?_⟩) ?_ ?_
                  rotate_left
                  ·intro w'
                   go_simp
                   with_reducible rfl
                  rotate_left
                  ·simp only [Act.put, List.setIfInBounds_toArray, List.set_cons_zero, List.set_cons_succ, i64_w, i32_w]
                   rfl
                  refine pure_ (i := 8) (N := some 11) (v := ?_) (a' := ?_) #[true, true, true, true, true, true, true, true, true] rfl rfl (any_of HT_.out (by kernel_rfl)) (fun _ _ _ h => h) (Or.inl ⟨by rfl, ?_⟩) ?_ ?_
                  rotate_left
                  ·intro w'
                   go_simp
                   with_reducible rfl
                  rotate_left
                  ·simp only [Act.put, List.setIfInBounds_toArray, List.set_cons_zero, List.set_cons_succ, i64_w, i32_w]
                   rfl
                  refine done_ (done_of HT_.out (by kernel_rfl)) ?_
                  have hcz71_0 : w70.cell? ⟨gb198, 0, none⟩ = some (.int .i64 a1_0) := (blk_cell BK198.out 0).trans rfl
                  have hcz71_1 : w70.cell? ⟨gb198, 1, none⟩ = some (.int .i64 a1_1) := (blk_cell BK198.out 1).trans rfl
                  have hfz71_0 := blk_frozen BK198.out 0
                  have hfz71_1 := blk_frozen BK198.out 1
                  try go_wp2_with (first | ((with_reducible refine gate_callee (f := 20) rfl ?_); refine goesL_ (some 108) rfl rfl Try.func20 (by kernel_rfl) rfl #[.slice Ao42 x5_2.length co42, .agg #[.int .i64 a1_0, .int .i64 a1_1], .int .i64 t224] rfl al_ ?_; (with_reducible refine (tags_Go.calls kj40 _ _ x5_2 a1_0 a1_1 t224 t228 t229 t230 t231 t232 _ ?side1 ?side2 A56.out).mono ?_); (case side1 => exact kc_ (Kd.R_reads' HO_5.out).2.2); (case side2 => exact (Kd.R_reads' HO_5.out).2.1); rintro e w72 ⟨rfl, hb⟩; refine ⟨_, rfl, ?_⟩; have n0_ := Aside0.mk (Kd.R_below (kr_ (HO_5.out)) hb); have n1_ := Aside0.mk (Kd.R_below (kr_ (HO223.out)) hb); have n2_ := Aside0.mk (bkb_ BK198.out hb); have n3_ := Aside0.mk (below_step (hb_ HB.out) hb); clear HO_5; clear HO223; clear BK198; clear HB; have HO_5 := n0_; have HO223 := n1_; have BK198 := n2_; have HB := n3_; clear n0_ n1_ n2_ n3_; (try clear hb); (try clear hb2); (try clear hk); (try clear hi)) | ((with_reducible refine gate_dst (N := 15) rfl ?_); (try (refine gate_guard (by rfl) ?_; dsimp only)); refine box_event ?hg (N := 15) ?hd (cs := #[.int .i64 0, .int .i64 0]) (t := 40) ?hr ?_; (case hd => rfl); (case hg => rfl); (case hr => first | (go_simp; done) | (go_simp; rfl)); intro gb233 hg w73 hbox hb; have n0_ := Aside0.mk (Kd.R_below (kr_ (HO_5.out)) hb); have n1_ := Aside0.mk (Kd.R_below (kr_ (HO223.out)) hb); have n2_ := Aside0.mk (bkb_ BK198.out hb); have n3_ := Aside0.mk (below_step (hb_ HB.out) hb); have n4_ := Aside0.mk (hbox); have n5_ := Aside0.mk ((by rw [hg]; exact (below_size (hb_ HB.out)) : w.heap.size ≤ gb233)); have n6_ := Aside0.mk ((by rw [hg]; exact (below_size (hb_ HB.out)) : w.heap.size ≤ gb233)); have n7_ := Aside0.mk ((by rw [hg]; exact Nat.ne_of_lt (bkl_ BK198.out) : gb198 ≠ gb233)); have n8_ := Aside0.mk ((by rw [hg]; exact Nat.ne_of_gt (bkl_ BK198.out) : gb233 ≠ gb198)); clear HO_5; clear HO223; clear BK198; clear HB; have HO_5 := n0_; have HO223 := n1_; have BK198 := n2_; have HB := n3_; have BK233 := n4_; have GW233 := n5_; have GE233 := n6_; have NB198_233 := n7_; have NB233_198 := n8_; clear n0_ n1_ n2_ n3_ n4_ n5_ n6_ n7_ n8_; clear hb hbox hg; have hnb74 := NB233_198.out; have hnc74 := NB198_233.out; have hcz75_0 : w73.cell? ⟨gb233, 0, none⟩ = some (.int .i64 0) := (blk_cell BK233.out 0).trans rfl; have hcz75_1 : w73.cell? ⟨gb233, 1, none⟩ = some (.int .i64 0) := (blk_cell BK233.out 1).trans rfl; have hfz75_0 := blk_frozen BK233.out 0; have hfz75_1 := blk_frozen BK233.out 1; have p234 : 0 ≤ (t228 : Int) := of_decide_eq_true (by first | (with_reducible assumption) | assumption); have q234 : t228 < (l0.length : Int) := of_decide_eq_true (by first | (with_reducible assumption) | assumption); obtain ⟨ad234, e234, hx234_0, hx234_1, hx234_2, hx234_3⟩ := at_T44 HR0.out t228 p234 q234; cases e234; have hn234_0 : ad234.block ≠ gb233 := Nat.ne_of_lt (Nat.lt_of_lt_of_le (by have := World.block_lt_of_cell? _ _ hx234_0; first | rwa [add_block] at this | exact this) GW233.out); have hn234_1 : ad234.block ≠ gb233 := Nat.ne_of_lt (Nat.lt_of_lt_of_le (by have := World.block_lt_of_cell? _ _ hx234_0; first | rwa [add_block] at this | exact this) GW233.out); replace hx234_0 := (HB.out.cell (World.block_lt_of_cell? w _ hx234_0)).trans hx234_0; replace hx234_1 := (HB.out.cell (World.block_lt_of_cell? w _ hx234_1)).trans hx234_1; replace hx234_2 := (HB.out.cell (World.block_lt_of_cell? w _ hx234_2)).trans hx234_2; replace hx234_3 := (HB.out.cell (World.block_lt_of_cell? w _ hx234_3)).trans hx234_3; replace hx234_0 := (cell_far (p := ⟨gb233, 0, none⟩) (by first | (rw [add_block]; exact hn234_0) | (show (Addr.add _ _).block ≠ _; rw [add_block]; exact hn234_0) | exact hn234_0) (.int .i64 t229)).trans hx234_0; replace hx234_1 := (cell_far (p := ⟨gb233, 0, none⟩) (by first | (rw [add_block]; exact hn234_0) | (show (Addr.add _ _).block ≠ _; rw [add_block]; exact hn234_0) | exact hn234_0) (.int .i64 t229)).trans hx234_1; replace hx234_2 := (cell_far (p := ⟨gb233, 0, none⟩) (by first | (rw [add_block]; exact hn234_0) | (show (Addr.add _ _).block ≠ _; rw [add_block]; exact hn234_0) | exact hn234_0) (.int .i64 t229)).trans hx234_2; replace hx234_3 := (cell_far (p := ⟨gb233, 0, none⟩) (by first | (rw [add_block]; exact hn234_0) | (show (Addr.add _ _).block ≠ _; rw [add_block]; exact hn234_0) | exact hn234_0) (.int .i64 t229)).trans hx234_3; replace hx234_0 := (cell_far (p := ⟨gb233, 1, none⟩) (by first | (rw [add_block]; exact hn234_1) | (show (Addr.add _ _).block ≠ _; rw [add_block]; exact hn234_1) | exact hn234_1) (.int .i64 t230)).trans hx234_0; replace hx234_1 := (cell_far (p := ⟨gb233, 1, none⟩) (by first | (rw [add_block]; exact hn234_1) | (show (Addr.add _ _).block ≠ _; rw [add_block]; exact hn234_1) | exact hn234_1) (.int .i64 t230)).trans hx234_1; replace hx234_2 := (cell_far (p := ⟨gb233, 1, none⟩) (by first | (rw [add_block]; exact hn234_1) | (show (Addr.add _ _).block ≠ _; rw [add_block]; exact hn234_1) | exact hn234_1) (.int .i64 t230)).trans hx234_2; replace hx234_3 := (cell_far (p := ⟨gb233, 1, none⟩) (by first | (rw [add_block]; exact hn234_1) | (show (Addr.add _ _).block ≠ _; rw [add_block]; exact hn234_1) | exact hn234_1) (.int .i64 t230)).trans hx234_3; clear hn234_0; clear hn234_1; replace p234 := eq_true p234; replace q234 := eq_true q234) | (go_at_call 14; (with_reducible refine (comfittop_marks.calls  t235 _ A66.out).mono ?_); rintro e w76 ⟨rfl, hb⟩; have n0_ := Aside0.mk (Kd.R_below (by (with_reducible repeat (first | apply Kd.R_alloc | apply Kd.R_drewN | apply Kd.R_drew)); exact (Kd.R_mono (Kd.R_far (p := ⟨gb233, 1, none⟩) (Kd.R_far (p := ⟨gb233, 0, none⟩) (Kd.R_types HO_5.out BK233.out (by decide)) (fun _ hk => hk.2) (.int .i64 t229)) (fun _ hk => hk.2) (.int .i64 t230)) (fun _ h_ => h_.1))) hb); have n1_ := Aside0.mk (Kd.R_below (by (with_reducible repeat (first | apply Kd.R_alloc | apply Kd.R_drewN | apply Kd.R_drew)); exact (Kd.R_mono (Kd.R_far (p := ⟨gb233, 1, none⟩) (Kd.R_far (p := ⟨gb233, 0, none⟩) (Kd.R_types HO223.out BK233.out (by decide)) (fun _ hk => hk.2) (.int .i64 t229)) (fun _ hk => hk.2) (.int .i64 t230)) (fun _ h_ => h_.1))) hb); have n2_ := Aside0.mk (blk_below (g := gb198) (o := .cells #[.int .i64 a1_0, .int .i64 a1_1] 40 (0, 0)) (by (with_reducible repeat (first | refine blk_drewN ?_ _ | refine blk_drew ?_ | refine blk_alloc ?_ _)); refine blk_far ?_ NB198_233.out _; (with_reducible repeat (first | refine blk_drewN ?_ _ | refine blk_drew ?_ | refine blk_alloc ?_ _)); refine blk_far ?_ NB198_233.out _; (with_reducible repeat (first | refine blk_drewN ?_ _ | refine blk_drew ?_ | refine blk_alloc ?_ _)); exact BK198.out) hb); have n3_ := Aside0.mk (blk_below (g := gb233) (o := .cells #[.int .i64 t229, .int .i64 t230] 40 (0, 0)) (by (with_reducible repeat (first | refine blk_drewN ?_ _ | refine blk_drew ?_ | refine blk_alloc ?_ _)); refine blk_put (cs := #[.int .i64 t229, .int .i64 0]) ?_ 1 _ rfl; (with_reducible repeat (first | refine blk_drewN ?_ _ | refine blk_drew ?_ | refine blk_alloc ?_ _)); refine blk_put (cs := #[.int .i64 0, .int .i64 0]) ?_ 0 _ rfl; (with_reducible repeat (first | refine blk_drewN ?_ _ | refine blk_drew ?_ | refine blk_alloc ?_ _)); exact BK233.out) hb); have n4_ := Aside0.mk (below_step (hb_ HB.out) hb); clear HO_5; clear HO223; clear BK198; clear BK233; clear HB; have HO_5 := n0_; have HO223 := n1_; have BK198 := n2_; have BK233 := n3_; have HB := n4_; clear n0_ n1_ n2_ n3_ n4_; (try clear hb); (try clear hb2); (try clear hk); (try clear hi)))
                  go_ret
                  exact ⟨by first | rfl | (simp [errW_none, errW_some] <;> rfl) | (simp only [← hji64]; first | rfl | (simp [errW_none, errW_some] <;> rfl)) | (simp [*, errW_none, errW_some] <;> rfl), by repeat (first | (with_reducible first | exact HB.out | apply below_alloc | apply pw_below_drewN | apply below_drew1 | refine below_set ?_ GE198.out | refine below_set ?_ GE233.out) | exact HB.out)⟩
                 ·rw [if_neg c65] at H
                  exact absurd H (by simp)
                ·rw [if_neg c62] at H
                 exact absurd H (by simp)
               ·rw [if_neg c61] at H
                exact absurd H (by simp)
              ·rw [if_neg c60] at H
               exact absurd H (by simp)
             ·rw [if_neg c59] at H
              exact absurd H (by simp)
            ·rw [if_neg c58] at H
             exact absurd H (by simp)
           ·rw [if_neg c57] at H
            exact absurd H (by simp)
          ·rw [if_neg c55] at H
           have c55b0 : (t225 == 0) = false := beq_eq_false_iff_ne.mpr c55
           have c55b1 : (t225 != 0) = true := bne_iff_ne.mpr c55
           by_cases c77 : t225 = 4
           ·rw [if_pos c77] at H
            have c77b0 : (t225 == 4) = true := beq_iff_eq.mpr c77
            have c77b1 : (t225 != 4) = false := bne_eq_false_iff_eq.mpr c77
            clear c77
            replace H := Option.bind_eq_some_iff.mp H
            obtain ⟨t226, A780, H⟩ := H
            replace H : (some t226) = some r := H
            have A78 := Aside0.mk A780
            clear A780
            obtain rfl := Option.some.inj H
            try go_wp2
            have n0_ := Aside0.mk (Kd.R_drew HO_5.out)
            have n1_ := Aside0.mk (blk_drew BK198.out)
            have n2_ := Aside0.mk (below_drew1 HB.out)
            clear HO_5
            clear BK198
            clear HB
            have HO_5 := n0_
            have BK198 := n1_
            have HB := n2_
            clear n0_ n1_ n2_
            refine start_ (n := 9) (S := fun w' => w'.cell? ⟨gb198, 0, none⟩ = some (.int .i64 a1_0) ∧ w'.cell? ⟨gb198, 1, none⟩ = some (.int .i64 a1_1)) (ds := []) #[false, false, false, false, false, false, false, false, false] (by kernel_rfl) rfl rfl ⟨(blk_cell BK198.out 0).trans rfl, (blk_cell BK198.out 1).trans rfl⟩ (fun hHeld => ?_); refine with_tabW comfittop_TopOrders.tab20 comfittop_TopOrders.bits20 (fun HT_ HW_ => ?_)
            generalize wc.drew = w79 at HO_5 BK198 HB hHeld ⊢
            refine pure_ (i := 0) (N := some 87) (v := ?_) (a' := ?_) #[true, false, false, false, false, false, false, false, false] rfl rfl (any_of HT_.out (by kernel_rfl)) (fun _ _ _ h => h) (Or.inl ⟨by rfl, ?_⟩) ?_ ?_
            rotate_left
            ·intro w'
             go_simp
             with_reducible rfl
            rotate_left
            ·simp only [Act.put, List.setIfInBounds_toArray, List.set_cons_zero, List.set_cons_succ, i64_w, i32_w]
             rfl
            refine take_ (i := 2) (N := some 89) (v := ?_) (a' := ?_) #[true, false, true, false, false, false, false, false, false] rfl rfl (take_ofW HT_.out HW_.out (by kernel_rfl)) (fun _ _ _ h => h) (Or.inl ⟨by rfl, ?_⟩) hHeld ?_ ?_
            rotate_left
            ·rintro w' ⟨s0, s1⟩
             go_simp
             with_reducible rfl
            rotate_left
            ·simp only [Act.put, List.setIfInBounds_toArray, List.set_cons_zero, List.set_cons_succ, i64_w, i32_w]
             rfl
            refine one_ (i := 1) (N := some 88) #[true, true, true, false, false, false, false, false, false] rfl rfl (one_of HT_.out (by kernel_rfl)) (by decide) (fun K hK => ?_)
            refine goes_ Try.func16 (by kernel_rfl) rfl #[.slice Ao42 x5_2.length co42] (by rfl) rfl rfl al_ ?_
            with_reducible refine (tags_Order.calls _ _ x5_2 t221 _ ?side1 ?side2 A53.out).mono ?_
            (case side1 => exact kc_ (Kd.R_reads' HO_5.out).2.2)
            (case side2 => exact (Kd.R_reads' HO_5.out).2.1)
            rintro e w80 ⟨v222, rfl, ho0, hb⟩
            refine ⟨_, rfl, ?_⟩
            have n0_ := Aside0.mk (Kd.R_elder' (kr_ (HO_5.out)) (Kd.R_base ho0) hb)
            have n1_ := Aside0.mk (Kd.R_lower (Kd.R_new' ho0 (Kd.R_lt (kr_ (HO_5.out)))) (below_size (hb_ HB.out)))
            have n2_ := Aside0.mk (bkb_ BK198.out hb)
            have n3_ := Aside0.mk (below_step (hb_ HB.out) hb)
            clear HO_5
            clear BK198
            clear HB
            have HO_5 := n0_
            have HO223 := n1_
            have BK198 := n2_
            have HB := n3_
            clear n0_ n1_ n2_ n3_
            (try clear hb)
            (try clear hb2)
            (try clear hk)
            (try clear hi)
            (try clear ho0)
            obtain ⟨Ao81, co81, eo81⟩ := Kd.R_slice HO223.out
            (first | subst eo81 | (injection eo81 with f1_ f2_ f3_; have f4_ := f1_.symm; have f5_ := f3_.symm; clear f1_ f2_ f3_; subst f4_; subst f5_))
            refine hK.out _ _ ⟨(blk_cell BK198.out 0).trans rfl, (blk_cell BK198.out 1).trans rfl⟩ (fun hHeld => ?_)
            clear hK K
            refine norm_ (a' := ?_) ?_ ?_
            rotate_left
            ·show Act.put _ (some 88) _ = _
             simp only [Act.put, List.setIfInBounds_toArray, List.set_cons_zero, List.set_cons_succ, i64_w, i32_w]
             rfl
            refine one_ (i := 3) (N := some 90) #[true, true, true, true, false, false, false, false, false] rfl rfl (one_of HT_.out (by kernel_rfl)) (by decide) (fun K hK => ?_)
            refine goes_ Try.func19 (by kernel_rfl) rfl #[.slice Ao81 t221.length co81, .agg #[.int .i64 a1_0, .int .i64 a1_1]] (by rfl) rfl rfl al_ ?_
            with_reducible refine (tags_Ends.calls kj40 _ _ t221 a1_0 a1_1 t224 t225 _ ?side1 ?side2 A54.out).mono ?_
            (case side1 => exact kc_ (Kd.R_reads' HO223.out).2.2)
            (case side2 => exact (Kd.R_reads' HO223.out).2.1)
            rintro e w82 ⟨rfl, hb⟩
            refine ⟨_, rfl, ?_⟩
            have n0_ := Aside0.mk (Kd.R_below (kr_ (HO_5.out)) hb)
            have n1_ := Aside0.mk (Kd.R_below (kr_ (HO223.out)) hb)
            have n2_ := Aside0.mk (bkb_ BK198.out hb)
            have n3_ := Aside0.mk (below_step (hb_ HB.out) hb)
            clear HO_5
            clear HO223
            clear BK198
            clear HB
            have HO_5 := n0_
            have HO223 := n1_
            have BK198 := n2_
            have HB := n3_
            clear n0_ n1_ n2_ n3_
            (try clear hb)
            (try clear hb2)
            (try clear hk)
            (try clear hi)
            refine hK.out _ _ ⟨(blk_cell BK198.out 0).trans rfl, (blk_cell BK198.out 1).trans rfl⟩ (fun hHeld => ?_)
            clear hK K
            refine norm_ (a' := ?_) ?_ ?_
            rotate_left
            ·show Act.put _ (some 90) _ = _
             simp only [Act.put, List.setIfInBounds_toArray, List.set_cons_zero, List.set_cons_succ, i64_w, i32_w]
             rfl
            refine pure_ (i := 4) (N := some 86) (v := ?_) (a' := ?_) #[true, true, true, true, true, false, false, false, false] rfl rfl (any_of HT_.out (by kernel_rfl)) (fun _ _ _ h => h) (Or.inl ⟨by rfl, ?_⟩) ?_ ?_
            rotate_left
            ·intro w'
             go_simp
             with_reducible rfl
            rotate_left
            ·simp only [Act.put, List.setIfInBounds_toArray, List.set_cons_zero, List.set_cons_succ, i64_w, i32_w]
             rfl
            refine pure_ (i := 5) (N := some 91) (v := ?_) (a' := ?_) #[true, true, true, true, true, true, false, false, false] rfl rfl (any_of HT_.out (by kernel_rfl)) (fun _ _ _ h => h) (Or.inl ⟨by rfl, ?_⟩) ?_ ?_
            rotate_left
            ·intro w'
             go_simp
             with_reducible rfl
            rotate_left
            ·simp only [Act.put, List.setIfInBounds_toArray, List.set_cons_zero, List.set_cons_succ, i64_w, i32_w]
             rfl
            refine pure_ (i := 6) (N := some 92) (v := ?_) (a' := ?_) #[true, true, true, true, true, true, true, false, false] rfl rfl (any_of HT_.out (by kernel_rfl)) (fun _ _ _ h => h) (Or.inl ⟨by rfl, ?_⟩) ?_ ?_
            rotate_left
            ·intro w'
             go_simp
             with_reducible rfl
            rotate_left
            ·simp only [Act.put, List.setIfInBounds_toArray, List.set_cons_zero, List.set_cons_succ, i64_w, i32_w]
             rfl
            refine pure_ (i := 7) (N := some 13) (v := ?_) (a' := ?_) #[true, true, true, true, true, true, true, true, false] rfl rfl (any_of HT_.out (by kernel_rfl)) (fun _ _ _ h => h) (Or.inl ⟨by rfl, ?_⟩) ?_ ?_
            rotate_left
            ·intro w'
             go_simp
             with_reducible rfl
            rotate_left
            ·simp only [Act.put, List.setIfInBounds_toArray, List.set_cons_zero, List.set_cons_succ, i64_w, i32_w]
             rfl
            refine pure_ (i := 8) (N := some 11) (v := ?_) (a' := ?_) #[true, true, true, true, true, true, true, true, true] rfl rfl (any_of HT_.out (by kernel_rfl)) (fun _ _ _ h => h) (Or.inl ⟨by rfl, ?_⟩) ?_ ?_
            rotate_left
            ·intro w'
             go_simp
             with_reducible rfl
            rotate_left
            ·simp only [Act.put, List.setIfInBounds_toArray, List.set_cons_zero, List.set_cons_succ, i64_w, i32_w]
             rfl
            refine done_ (done_of HT_.out (by kernel_rfl)) ?_
            try go_wp2_with (first | (go_at_call 14; (with_reducible refine (comfittop_marks.calls  t226 _ A78.out).mono ?_); rintro e w83 ⟨rfl, hb⟩; have n0_ := Aside0.mk (Kd.R_below (kr_ (HO_5.out)) hb); have n1_ := Aside0.mk (Kd.R_below (kr_ (HO223.out)) hb); have n2_ := Aside0.mk (bkb_ BK198.out hb); have n3_ := Aside0.mk (below_step (hb_ HB.out) hb); clear HO_5; clear HO223; clear BK198; clear HB; have HO_5 := n0_; have HO223 := n1_; have BK198 := n2_; have HB := n3_; clear n0_ n1_ n2_ n3_; (try clear hb); (try clear hb2); (try clear hk); (try clear hi)))
            go_ret
            exact ⟨by first | rfl | (simp [errW_none, errW_some] <;> rfl) | (simp [*, errW_none, errW_some] <;> rfl), by repeat (first | (with_reducible first | exact HB.out | apply below_alloc | apply pw_below_drewN | apply below_drew1 | refine below_set ?_ GE198.out) | exact HB.out)⟩
           ·rw [if_neg c77] at H
            have c77b0 : (t225 == 4) = false := beq_eq_false_iff_ne.mpr c77
            have c77b1 : (t225 != 4) = true := bne_iff_ne.mpr c77
            by_cases c84 : t225 = 2
            ·rw [if_pos c84] at H
             have c84b0 : (t225 == 2) = true := beq_iff_eq.mpr c84
             have c84b1 : (t225 != 2) = false := bne_eq_false_iff_eq.mpr c84
             clear c84
             replace H := Option.bind_eq_some_iff.mp H
             obtain ⟨t227, A850, H⟩ := H
             replace H : (some t227) = some r := H
             have A85 := Aside0.mk A850
             clear A850
             obtain rfl := Option.some.inj H
             try go_wp2
             have n0_ := Aside0.mk (Kd.R_drew HO_5.out)
             have n1_ := Aside0.mk (blk_drew BK198.out)
             have n2_ := Aside0.mk (below_drew1 HB.out)
             clear HO_5
             clear BK198
             clear HB
             have HO_5 := n0_
             have BK198 := n1_
             have HB := n2_
             clear n0_ n1_ n2_
             refine start_ (n := 9) (S := fun w' => w'.cell? ⟨gb198, 0, none⟩ = some (.int .i64 a1_0) ∧ w'.cell? ⟨gb198, 1, none⟩ = some (.int .i64 a1_1)) (ds := []) #[false, false, false, false, false, false, false, false, false] (by kernel_rfl) rfl rfl ⟨(blk_cell BK198.out 0).trans rfl, (blk_cell BK198.out 1).trans rfl⟩ (fun hHeld => ?_); refine with_tabW comfittop_TopOrders.tab20 comfittop_TopOrders.bits20 (fun HT_ HW_ => ?_)
             generalize wc.drew = w86 at HO_5 BK198 HB hHeld ⊢
             refine pure_ (i := 0) (N := some 87) (v := ?_) (a' := ?_) #[true, false, false, false, false, false, false, false, false] rfl rfl (any_of HT_.out (by kernel_rfl)) (fun _ _ _ h => h) (Or.inl ⟨by rfl, ?_⟩) ?_ ?_
             rotate_left
             ·intro w'
              go_simp
              with_reducible rfl
             rotate_left
             ·simp only [Act.put, List.setIfInBounds_toArray, List.set_cons_zero, List.set_cons_succ, i64_w, i32_w]
              rfl
             refine take_ (i := 2) (N := some 89) (v := ?_) (a' := ?_) #[true, false, true, false, false, false, false, false, false] rfl rfl (take_ofW HT_.out HW_.out (by kernel_rfl)) (fun _ _ _ h => h) (Or.inl ⟨by rfl, ?_⟩) hHeld ?_ ?_
             rotate_left
             ·rintro w' ⟨s0, s1⟩
              go_simp
              with_reducible rfl
             rotate_left
             ·simp only [Act.put, List.setIfInBounds_toArray, List.set_cons_zero, List.set_cons_succ, i64_w, i32_w]
              rfl
             refine one_ (i := 1) (N := some 88) #[true, true, true, false, false, false, false, false, false] rfl rfl (one_of HT_.out (by kernel_rfl)) (by decide) (fun K hK => ?_)
             refine goes_ Try.func16 (by kernel_rfl) rfl #[.slice Ao42 x5_2.length co42] (by rfl) rfl rfl al_ ?_
             with_reducible refine (tags_Order.calls _ _ x5_2 t221 _ ?side1 ?side2 A53.out).mono ?_
             (case side1 => exact kc_ (Kd.R_reads' HO_5.out).2.2)
             (case side2 => exact (Kd.R_reads' HO_5.out).2.1)
             rintro e w87 ⟨v222, rfl, ho0, hb⟩
             refine ⟨_, rfl, ?_⟩
             have n0_ := Aside0.mk (Kd.R_elder' (kr_ (HO_5.out)) (Kd.R_base ho0) hb)
             have n1_ := Aside0.mk (Kd.R_lower (Kd.R_new' ho0 (Kd.R_lt (kr_ (HO_5.out)))) (below_size (hb_ HB.out)))
             have n2_ := Aside0.mk (bkb_ BK198.out hb)
             have n3_ := Aside0.mk (below_step (hb_ HB.out) hb)
             clear HO_5
             clear BK198
             clear HB
             have HO_5 := n0_
             have HO223 := n1_
             have BK198 := n2_
             have HB := n3_
             clear n0_ n1_ n2_ n3_
             (try clear hb)
             (try clear hb2)
             (try clear hk)
             (try clear hi)
             (try clear ho0)
             obtain ⟨Ao88, co88, eo88⟩ := Kd.R_slice HO223.out
             (first | subst eo88 | (injection eo88 with f1_ f2_ f3_; have f4_ := f1_.symm; have f5_ := f3_.symm; clear f1_ f2_ f3_; subst f4_; subst f5_))
             refine hK.out _ _ ⟨(blk_cell BK198.out 0).trans rfl, (blk_cell BK198.out 1).trans rfl⟩ (fun hHeld => ?_)
             clear hK K
             refine norm_ (a' := ?_) ?_ ?_
             rotate_left
             ·show Act.put _ (some 88) _ = _
              simp only [Act.put, List.setIfInBounds_toArray, List.set_cons_zero, List.set_cons_succ, i64_w, i32_w]
              rfl
             refine one_ (i := 3) (N := some 90) #[true, true, true, true, false, false, false, false, false] rfl rfl (one_of HT_.out (by kernel_rfl)) (by decide) (fun K hK => ?_)
             refine goes_ Try.func19 (by kernel_rfl) rfl #[.slice Ao88 t221.length co88, .agg #[.int .i64 a1_0, .int .i64 a1_1]] (by rfl) rfl rfl al_ ?_
             with_reducible refine (tags_Ends.calls kj40 _ _ t221 a1_0 a1_1 t224 t225 _ ?side1 ?side2 A54.out).mono ?_
             (case side1 => exact kc_ (Kd.R_reads' HO223.out).2.2)
             (case side2 => exact (Kd.R_reads' HO223.out).2.1)
             rintro e w89 ⟨rfl, hb⟩
             refine ⟨_, rfl, ?_⟩
             have n0_ := Aside0.mk (Kd.R_below (kr_ (HO_5.out)) hb)
             have n1_ := Aside0.mk (Kd.R_below (kr_ (HO223.out)) hb)
             have n2_ := Aside0.mk (bkb_ BK198.out hb)
             have n3_ := Aside0.mk (below_step (hb_ HB.out) hb)
             clear HO_5
             clear HO223
             clear BK198
             clear HB
             have HO_5 := n0_
             have HO223 := n1_
             have BK198 := n2_
             have HB := n3_
             clear n0_ n1_ n2_ n3_
             (try clear hb)
             (try clear hb2)
             (try clear hk)
             (try clear hi)
             refine hK.out _ _ ⟨(blk_cell BK198.out 0).trans rfl, (blk_cell BK198.out 1).trans rfl⟩ (fun hHeld => ?_)
             clear hK K
             refine norm_ (a' := ?_) ?_ ?_
             rotate_left
             ·show Act.put _ (some 90) _ = _
              simp only [Act.put, List.setIfInBounds_toArray, List.set_cons_zero, List.set_cons_succ, i64_w, i32_w]
              rfl
             refine pure_ (i := 4) (N := some 86) (v := ?_) (a' := ?_) #[true, true, true, true, true, false, false, false, false] rfl rfl (any_of HT_.out (by kernel_rfl)) (fun _ _ _ h => h) (Or.inl ⟨by rfl, ?_⟩) ?_ ?_
             rotate_left
             ·intro w'
              go_simp
              with_reducible rfl
             rotate_left
             ·simp only [Act.put, List.setIfInBounds_toArray, List.set_cons_zero, List.set_cons_succ, i64_w, i32_w]
              rfl
             refine pure_ (i := 5) (N := some 91) (v := ?_) (a' := ?_) #[true, true, true, true, true, true, false, false, false] rfl rfl (any_of HT_.out (by kernel_rfl)) (fun _ _ _ h => h) (Or.inl ⟨by rfl, ?_⟩) ?_ ?_
             rotate_left
             ·intro w'
              go_simp
              with_reducible rfl
             rotate_left
             ·simp only [Act.put, List.setIfInBounds_toArray, List.set_cons_zero, List.set_cons_succ, i64_w, i32_w]
              rfl
             refine pure_ (i := 6) (N := some 92) (v := ?_) (a' := ?_) #[true, true, true, true, true, true, true, false, false] rfl rfl (any_of HT_.out (by kernel_rfl)) (fun _ _ _ h => h) (Or.inl ⟨by rfl, ?_⟩) ?_ ?_
             rotate_left
             ·intro w'
              go_simp
              with_reducible rfl
             rotate_left
             ·simp only [Act.put, List.setIfInBounds_toArray, List.set_cons_zero, List.set_cons_succ, i64_w, i32_w]
              rfl
             refine pure_ (i := 7) (N := some 13) (v := ?_) (a' := ?_) #[true, true, true, true, true, true, true, true, false] rfl rfl (any_of HT_.out (by kernel_rfl)) (fun _ _ _ h => h) (Or.inl ⟨by rfl, ?_⟩) ?_ ?_
             rotate_left
             ·intro w'
              go_simp
              with_reducible rfl
             rotate_left
             ·simp only [Act.put, List.setIfInBounds_toArray, List.set_cons_zero, List.set_cons_succ, i64_w, i32_w]
              rfl
             refine pure_ (i := 8) (N := some 11) (v := ?_) (a' := ?_) #[true, true, true, true, true, true, true, true, true] rfl rfl (any_of HT_.out (by kernel_rfl)) (fun _ _ _ h => h) (Or.inl ⟨by rfl, ?_⟩) ?_ ?_
             rotate_left
             ·intro w'
              go_simp
              with_reducible rfl
             rotate_left
             ·simp only [Act.put, List.setIfInBounds_toArray, List.set_cons_zero, List.set_cons_succ, i64_w, i32_w]
              rfl
             refine done_ (done_of HT_.out (by kernel_rfl)) ?_
             try go_wp2_with (first | (go_at_call 14; (with_reducible refine (comfittop_marks.calls  t227 _ A85.out).mono ?_); rintro e w90 ⟨rfl, hb⟩; have n0_ := Aside0.mk (Kd.R_below (kr_ (HO_5.out)) hb); have n1_ := Aside0.mk (Kd.R_below (kr_ (HO223.out)) hb); have n2_ := Aside0.mk (bkb_ BK198.out hb); have n3_ := Aside0.mk (below_step (hb_ HB.out) hb); clear HO_5; clear HO223; clear BK198; clear HB; have HO_5 := n0_; have HO223 := n1_; have BK198 := n2_; have HB := n3_; clear n0_ n1_ n2_ n3_; (try clear hb); (try clear hb2); (try clear hk); (try clear hi)))
             go_ret
             exact ⟨by first | rfl | (simp [errW_none, errW_some] <;> rfl) | (simp [*, errW_none, errW_some] <;> rfl), by repeat (first | (with_reducible first | exact HB.out | apply below_alloc | apply pw_below_drewN | apply below_drew1 | refine below_set ?_ GE198.out) | exact HB.out)⟩
            ·rw [if_neg c84] at H
             exact absurd H (by simp)

end Go.Proofs.Ytmlbdkkdejecmaa.X
