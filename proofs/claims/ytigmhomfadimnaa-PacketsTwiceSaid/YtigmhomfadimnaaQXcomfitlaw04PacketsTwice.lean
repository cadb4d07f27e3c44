/- Written by a program of this session (wip/tools/xprint.py, which calls the kit's print): Go functions as Lean functions, and for each the proof that the machine's call does what it says; no conditions but those that each theorem names. -/
import Derived.Test.YtigmhomfadimnaaQX0
import Derived.Test.YtigmhomfadimnaaQXEq
import Derived.Test.YtigmhomfadimnaaQXL
import Derived.Test.YtigmhomfadimnaaQXS
import Derived.Test.YtigmhomfadimnaaQXSL
import Derived.Test.YtigmhomfadimnaaQXcomfitlaw04awake
import Derived.Test.YtigmhomfadimnaaQXcomfitlaw04list
import Derived.Test.YtigmhomfadimnaaQHMean
import Derived.Test.YtigmhomfadimnaaQHPairs
namespace Go.Proofs.Ytigmhomfadimnaa.X
open Go.RowKit Go.Proofs.YtigmhomfadimnaaW.PrintWords Go.Proofs.YtigmhomfadimnaaW.PrintLast Go.Proofs.YtigmhomfadimnaaW.PrintMore
attribute [local go_sem] max2_int min2_int max_two min_two max_three min_three max_four min_four   -- for this text's walks alone
set_option linter.unusedVariables false
set_option linter.unusedSimpArgs false

attribute [local go_sem high] eqA25
/-! ### comfitlaw04_PacketsTwice: function 15 -/
mutual
def comfitlaw04_PacketsTwice.j0 : Nat → List Int → Int → Int → Int → Bool → Int → Int → Option (Bool)
 | 0, _, _, _, _, _, _, _ => none
 | k + 1, x0, x1, x2, x8, x33, x638000, x638001 => if x33 = true then (if x8 = 2 then ((comfitlaw04_awake.f k).bind fun t639 => (some t639)) else (none)) else ((comfitlaw04_list.f x0).bind fun t640 => ((packets_Pairs.f k t640 0).bind fun bt643 => ((comfitlaw04_list.f x0).bind fun t647 => ((packets_Mean.f k t647 (wrap64 ((shl .i64 1 (x0.length : Int)) - 1))).bind fun bt650 => (if bt643.2.2 = 0 then (if bt650.2.2 = 0 then (if (!(bt643.1 == bt650.1) || (!(bt643.2.1 == bt650.2.1))) = true then (comfitlaw04_PacketsTwice.j1 k x0 x1 x2 true x638000 x638001) else ((comfitlaw04_right.f bt643.1 bt643.2.1 400).bind fun t654 => (if t654 = true then ((comfitlaw04_right.f x638000 x638001 400).bind fun t655 => (if t655 = true then ((comfitref04_Less.f k x638000 x638001 bt643.1 bt643.2.1).bind fun t656 => (comfitlaw04_PacketsTwice.j1 k x0 x1 x2 t656 x638000 x638001)) else (comfitlaw04_PacketsTwice.j1 k x0 x1 x2 true x638000 x638001))) else (comfitlaw04_PacketsTwice.j1 k x0 x1 x2 true x638000 x638001)))) else (comfitlaw04_PacketsTwice.j1 k x0 x1 x2 true x638000 x638001)) else (comfitlaw04_PacketsTwice.j1 k x0 x1 x2 true x638000 x638001))))))
def comfitlaw04_PacketsTwice.j1 : Nat → List Int → Int → Int → Bool → Int → Int → Option (Bool)
 | 0, _, _, _, _, _, _ => none
 | k + 1, x0, x1, x2, x80, x638000, x638001 => if x80 = true then (none) else (if (IntKind.u64.wrap ((x0.length : Int))) = 0 then (none) else ((comfitlaw04_list.f x0).bind fun t657 => (if 0 ≤ (wrap64 (Int.tmod (IntKind.u64.wrap (x2)) (IntKind.u64.wrap ((x0.length : Int))))) then ((packets_Pairs.f k t657 (Go.bits .or .i64 x1 (shl .i64 1 (wrap64 (Int.tmod (IntKind.u64.wrap (x2)) (IntKind.u64.wrap ((x0.length : Int)))))))).bind fun bt660 => (if bt660.2.2 = 0 then ((comfitlaw04_right.f bt660.1 bt660.2.1 400).bind fun t664 => (if t664 = true then (if (Go.bits .and .i64 (shr .i64 x1 (wrap64 (Int.tmod (IntKind.u64.wrap (x2)) (IntKind.u64.wrap ((x0.length : Int)))))) 1) = 1 then (if (bt660.1 == x638000 && (bt660.2.1 == x638001)) = true then ((comfitlaw04_awake.f k).bind fun t665 => (some t665)) else (if (Go.bits .and .i64 (shr .i64 x1 (wrap64 (Int.tmod (IntKind.u64.wrap (x2)) (IntKind.u64.wrap ((x0.length : Int)))))) 1) = 0 then ((comfitref04_Less.f k x638000 x638001 bt660.1 bt660.2.1).bind fun t666 => (if t666 = true then ((comfitlaw04_awake.f k).bind fun t667 => (some t667)) else (none))) else (none))) else (if (Go.bits .and .i64 (shr .i64 x1 (wrap64 (Int.tmod (IntKind.u64.wrap (x2)) (IntKind.u64.wrap ((x0.length : Int)))))) 1) = 0 then ((comfitref04_Less.f k x638000 x638001 bt660.1 bt660.2.1).bind fun t668 => (if t668 = true then ((comfitlaw04_awake.f k).bind fun t669 => (some t669)) else (none))) else (none))) else (none))) else (none))) else (none))))
end
def comfitlaw04_PacketsTwice.f (k : Nat) (l0 : List Int) (a1 : Int) (a2 : Int) : Option (Bool) := (comfitlaw04_list.f l0).bind fun t631 => ((packets_Pairs.f k t631 a1).bind fun bt634 => (if bt634.2.2 = 0 then ((comfitref04_Set.f k l0 a1).bind fun t638 => (if t638 = true then (comfitlaw04_PacketsTwice.j0 k l0 a1 a2 bt634.2.2 (decide ((l0.length : Int) > 3)) bt634.1 bt634.2.1) else (comfitlaw04_PacketsTwice.j0 k l0 a1 a2 bt634.2.2 true bt634.1 bt634.2.1))) else (comfitlaw04_PacketsTwice.j0 k l0 a1 a2 bt634.2.2 true bt634.1 bt634.2.1)))
def comfitlaw04_PacketsTwice.T5 : Bool × List (List Nat × List Nat) := (true, [([], []), ([0], [0]), ([], []), ([2], [2]), ([3], [3]), ([4], [4]), ([1, 5, 1], [1, 5]), ([6], [6]), ([7], [7]), ([7], [7]), ([], []), ([10, 8, 6, 0, 1, 2, 3, 4, 5, 6, 7, 8, 10], [8, 10]), ([9, 11, 0, 1, 2, 3, 4, 5, 6, 7, 8, 9, 10, 11], [9])])
def comfitlaw04_PacketsTwice.B5 : List Nat := [0, 1, 0, 4, 12, 28, 63, 127, 255, 255, 0, 1535, 4095]
theorem comfitlaw04_PacketsTwice.tab5 : rtab .any (opsOf Try.f15 5) = comfitlaw04_PacketsTwice.T5 := by kernel_rfl
theorem comfitlaw04_PacketsTwice.bits5 : waitsOk comfitlaw04_PacketsTwice.T5.2 comfitlaw04_PacketsTwice.B5 = true := by kernel_rfl
def comfitlaw04_PacketsTwice.T9 : Bool × List (List Nat × List Nat) := (true, [([], []), ([0], [0]), ([], []), ([], []), ([3], [3]), ([2, 4], [2, 4]), ([1, 5, 1], [1, 5]), ([6], [6]), ([7], [7]), ([7], [7]), ([], []), ([10, 8, 6, 0, 1, 2, 3, 4, 5, 6, 7, 8, 10], [8, 10]), ([9, 11, 0, 1, 2, 3, 4, 5, 6, 7, 8, 9, 10, 11], [9])])
def comfitlaw04_PacketsTwice.B9 : List Nat := [0, 1, 0, 0, 8, 28, 63, 127, 255, 255, 0, 1535, 4095]
theorem comfitlaw04_PacketsTwice.tab9 : rtab .any (opsOf Try.f15 9) = comfitlaw04_PacketsTwice.T9 := by kernel_rfl
theorem comfitlaw04_PacketsTwice.bits9 : waitsOk comfitlaw04_PacketsTwice.T9.2 comfitlaw04_PacketsTwice.B9 = true := by kernel_rfl
set_option maxHeartbeats 8000000 in
set_option maxRecDepth 100000 in
theorem comfitlaw04_PacketsTwice.calls (k : Nat) (A0 : Option Addr) (c0 : Nat) (l0 : List Int) (a1 : Int) (a2 : Int) (r : Bool) (w : World) (hr0 : Kd.C (Kd.int .i64) w A0 l0.length l0) (hc0 : l0.length ≤ c0) (h : comfitlaw04_PacketsTwice.f k l0 a1 a2 = some r) :
  Calls Try.prog 15 #[.slice A0 l0.length c0, .int .i64 a1, .int .i64 a2] w fun e w' => e = .returned (.bool r) ∧ Below w.heap.size w w' := by
 have hu25 := Try.underlying25
 have HR0 := Aside0.mk hr0
 have HC0 := Aside0.mk hc0
 clear hr0 hc0
 have HB := Aside0.mk (Below.refl w.heap.size w)
 have H : ((comfitlaw04_list.f l0).bind fun t631 => ((packets_Pairs.f k t631 a1).bind fun bt634 => (if bt634.2.2 = 0 then ((comfitref04_Set.f k l0 a1).bind fun t638 => (if t638 = true then (comfitlaw04_PacketsTwice.j0 k l0 a1 a2 bt634.2.2 (decide ((l0.length : Int) > 3)) bt634.1 bt634.2.1) else (comfitlaw04_PacketsTwice.j0 k l0 a1 a2 bt634.2.2 true bt634.1 bt634.2.1))) else (comfitlaw04_PacketsTwice.j0 k l0 a1 a2 bt634.2.2 true bt634.1 bt634.2.1)))) = some r := h
 clear h
 replace H := Option.bind_eq_some_iff.mp H
 obtain ⟨t631, A40, H⟩ := H
 replace H : ((packets_Pairs.f k t631 a1).bind fun bt634 => (if bt634.2.2 = 0 then ((comfitref04_Set.f k l0 a1).bind fun t638 => (if t638 = true then (comfitlaw04_PacketsTwice.j0 k l0 a1 a2 bt634.2.2 (decide ((l0.length : Int) > 3)) bt634.1 bt634.2.1) else (comfitlaw04_PacketsTwice.j0 k l0 a1 a2 bt634.2.2 true bt634.1 bt634.2.1))) else (comfitlaw04_PacketsTwice.j0 k l0 a1 a2 bt634.2.2 true bt634.1 bt634.2.1))) = some r := H
 have A4 := Aside0.mk A40
 clear A40
 replace H := Option.bind_eq_some_iff.mp H
 obtain ⟨⟨t634, t635, t636⟩, A50, H⟩ := H
 replace H : (if t636 = 0 then ((comfitref04_Set.f k l0 a1).bind fun t638 => (if t638 = true then (comfitlaw04_PacketsTwice.j0 k l0 a1 a2 t636 (decide ((l0.length : Int) > 3)) t634 t635) else (comfitlaw04_PacketsTwice.j0 k l0 a1 a2 t636 true t634 t635))) else (comfitlaw04_PacketsTwice.j0 k l0 a1 a2 t636 true t634 t635)) = some r := H
 have A5 := Aside0.mk A50
 clear A50
 have HC6 := Aside0.mk H
 clear H
 go_enter Try.func15, Try.ntmps15
 go_upto_region 2 with (first | ((with_reducible refine gate_callee (f := 22) rfl ?_); refine goesL_ (some 16) rfl rfl Try.func22 (by kernel_rfl) rfl #[.slice A0 l0.length c0] rfl al_ ?_; (with_reducible refine (comfitlaw04_list.calls _ _ l0 t631 _ ?side1 ?side2 A4.out).mono ?_); (case side1 => repeat (first | exact HR0.out | (with_reducible refine Kd.C_alloc ?_ _) | (with_reducible refine Kd.C_drewN ?_ _) | (with_reducible refine Kd.C_drew ?_))); (case side2 => exact HC0.out); rintro e w7 ⟨v632, rfl, ho0, hb⟩; refine ⟨_, rfl, ?_⟩; have n0_ := Aside0.mk (Kd.R_lower ho0 (below_size (hb_ HB.out))); have n1_ := Aside0.mk (below_step (hb_ HB.out) hb); clear HB; have HO633 := n0_; have HB := n1_; clear n0_ n1_; (try clear hb); (try clear hb2); (try clear hk); (try clear hi); (try clear ho0); obtain ⟨Ao8, co8, eo8⟩ := Kd.R_slice HO633.out; subst eo8) | ((with_reducible refine gate_callee (f := 46) rfl ?_); refine goesL_ (some 18) rfl rfl Try.func46 (by kernel_rfl) rfl #[.slice Ao8 t631.length co8, .int .i64 a1] rfl al_ ?_; (with_reducible refine (packets_Pairs.calls k _ _ t631 a1 t634 t635 t636 _ ?side1 ?side2 A5.out).mono ?_); (case side1 => exact kc_ (Kd.R_reads' HO633.out).2.2); (case side2 => exact (Kd.R_reads' HO633.out).2.1); rintro e w9 ⟨rfl, hb⟩; refine ⟨_, rfl, ?_⟩; have n0_ := Aside0.mk (Kd.R_below (kr_ (HO633.out)) hb); have n1_ := Aside0.mk (below_step (hb_ HB.out) hb); clear HO633; clear HB; have HO633 := n0_; have HB := n1_; clear n0_ n1_; (try clear hb); (try clear hb2); (try clear hk); (try clear hi)) | ((with_reducible refine gate_dst (N := 7) rfl ?_); (try (refine gate_guard (by rfl) ?_; dsimp only)); refine box_event ?hg (N := 7) ?hd (cs := #[.int .i64 0, .int .i64 0]) (t := 25) ?hr ?_; (case hd => rfl); (case hg => rfl); (case hr => first | (go_simp; done) | (go_simp; rfl)); intro gb637 hg w10 hbox hb; have n0_ := Aside0.mk (Kd.R_below (kr_ (HO633.out)) hb); have n1_ := Aside0.mk (below_step (hb_ HB.out) hb); have n2_ := Aside0.mk (hbox); have n3_ := Aside0.mk ((by rw [hg]; exact (below_size (hb_ HB.out)) : w.heap.size ≤ gb637)); have n4_ := Aside0.mk ((by rw [hg]; exact (below_size (hb_ HB.out)) : w.heap.size ≤ gb637)); clear HO633; clear HB; have HO633 := n0_; have HB := n1_; have BK637 := n2_; have GW637 := n3_; have GE637 := n4_; clear n0_ n1_ n2_ n3_ n4_; clear hb hbox hg; have hcz11_0 : w10.cell? ⟨gb637, 0, none⟩ = some (.int .i64 0) := (blk_cell BK637.out 0).trans rfl; have hcz11_1 : w10.cell? ⟨gb637, 1, none⟩ = some (.int .i64 0) := (blk_cell BK637.out 1).trans rfl; have hfz11_0 := blk_frozen BK637.out 0; have hfz11_1 := blk_frozen BK637.out 1))
 (try simp only [Act.put, List.setIfInBounds_toArray, List.set_cons_zero, List.set_cons_succ])
 go_cut [33] (fun v33 wc => ∃ (kq : Nat) (x33_5 : Bool), v33 = .bool x33_5 ∧ Aside0 (comfitlaw04_PacketsTwice.j0 kq l0 a1 a2 t636 x33_5 t634 t635 = some r) ∧ Aside0 (kq ≤ k) ∧ Aside0 (wc.heap[gb637]? = some (.cells #[.int .i64 t634, .int .i64 t635] 25 (0, 0))) ∧ Aside0 (Below w.heap.size w wc))
 case first =>
  have H := HC6.out
  clear HC6
  by_cases c12 : t636 = 0
  ·rw [if_pos c12] at H
   have c12b0 : (t636 == 0) = true := beq_iff_eq.mpr c12
   have c12b1 : (t636 != 0) = false := bne_eq_false_iff_eq.mpr c12
   clear c12
   (first | rw [c12b0] | (simp only [i64_w, i32_w]; rw [c12b0]) | skip)
   replace H := Option.bind_eq_some_iff.mp H
   obtain ⟨t638, A130, H⟩ := H
   replace H : (if t638 = true then (comfitlaw04_PacketsTwice.j0 k l0 a1 a2 t636 (decide ((l0.length : Int) > 3)) t634 t635) else (comfitlaw04_PacketsTwice.j0 k l0 a1 a2 t636 true t634 t635)) = some r := H
   have A13 := Aside0.mk A130
   clear A130
   by_cases c14 : t638 = true
   ·subst c14
    have H1 : (comfitlaw04_PacketsTwice.j0 k l0 a1 a2 t636 (decide ((l0.length : Int) > 3)) t634 t635) = some r := by rw [if_pos rfl] at H; exact H
    clear H
    have H := H1
    clear H1
    have H' := Aside0.mk H
    clear H
    go_wp2_with (first | (go_at_call 21; (with_reducible refine (comfitref04_Set.calls k _ _ l0 a1 true _ ?side1 ?side2 A13.out).mono ?_); (case side1 => exact Kd.C_below HR0.out (hb_ HB.out)); (case side2 => exact HC0.out); rintro e w' ⟨rfl, ⟨nd, rfl⟩⟩))
    go_meet
    case rel => exact ⟨_, (decide ((l0.length : Int) > 3)), (by first | rfl | (simp; done) | (simp [*]; done)), H', ⟨by first | omega | exact Nat.le_refl _⟩, ⟨by (with_reducible repeat (first | refine blk_drewN ?_ _ | refine blk_drew ?_ | refine blk_alloc ?_ _)); refine blk_put (cs := #[.int .i64 t634, .int .i64 0]) ?_ 1 _ rfl; (with_reducible repeat (first | refine blk_drewN ?_ _ | refine blk_drew ?_ | refine blk_alloc ?_ _)); refine blk_put (cs := #[.int .i64 0, .int .i64 0]) ?_ 0 _ rfl; (with_reducible repeat (first | refine blk_drewN ?_ _ | refine blk_drew ?_ | refine blk_alloc ?_ _)); exact BK637.out⟩, ⟨by repeat (first | (with_reducible first | exact HB.out | apply below_alloc | apply pw_below_drewN | apply below_drew1 | refine below_set ?_ GE637.out) | exact HB.out)⟩⟩
   ·replace c14 := Bool.eq_false_iff.mpr c14
    subst c14
    have H1 : (comfitlaw04_PacketsTwice.j0 k l0 a1 a2 t636 true t634 t635) = some r := by rw [if_neg (show ¬ (false = true) by decide)] at H; exact H
    clear H
    have H := H1
    clear H1
    have H' := Aside0.mk H
    clear H
    go_wp2_with (first | (go_at_call 21; (with_reducible refine (comfitref04_Set.calls k _ _ l0 a1 false _ ?side1 ?side2 A13.out).mono ?_); (case side1 => exact Kd.C_below HR0.out (hb_ HB.out)); (case side2 => exact HC0.out); rintro e w' ⟨rfl, ⟨nd, rfl⟩⟩))
    go_meet
    case rel => exact ⟨_, (true), (by first | rfl | (simp; done) | (simp [*]; done)), H', ⟨by first | omega | exact Nat.le_refl _⟩, ⟨by (with_reducible repeat (first | refine blk_drewN ?_ _ | refine blk_drew ?_ | refine blk_alloc ?_ _)); refine blk_put (cs := #[.int .i64 t634, .int .i64 0]) ?_ 1 _ rfl; (with_reducible repeat (first | refine blk_drewN ?_ _ | refine blk_drew ?_ | refine blk_alloc ?_ _)); refine blk_put (cs := #[.int .i64 0, .int .i64 0]) ?_ 0 _ rfl; (with_reducible repeat (first | refine blk_drewN ?_ _ | refine blk_drew ?_ | refine blk_alloc ?_ _)); exact BK637.out⟩, ⟨by repeat (first | (with_reducible first | exact HB.out | apply below_alloc | apply pw_below_drewN | apply below_drew1 | refine below_set ?_ GE637.out) | exact HB.out)⟩⟩
  ·rw [if_neg c12] at H
   have c12b0 : (t636 == 0) = false := beq_eq_false_iff_ne.mpr c12
   have c12b1 : (t636 != 0) = true := bne_iff_ne.mpr c12
   (first | rw [c12b0] | (simp only [i64_w, i32_w]; rw [c12b0]) | skip)
   have H' := Aside0.mk H
   clear H
   go_wp2
   go_meet
   case rel => exact ⟨_, (true), (by first | rfl | (simp; done) | (simp [*]; done)), H', ⟨by first | omega | exact Nat.le_refl _⟩, ⟨by (with_reducible repeat (first | refine blk_drewN ?_ _ | refine blk_drew ?_ | refine blk_alloc ?_ _)); refine blk_put (cs := #[.int .i64 t634, .int .i64 0]) ?_ 1 _ rfl; (with_reducible repeat (first | refine blk_drewN ?_ _ | refine blk_drew ?_ | refine blk_alloc ?_ _)); refine blk_put (cs := #[.int .i64 0, .int .i64 0]) ?_ 0 _ rfl; (with_reducible repeat (first | refine blk_drewN ?_ _ | refine blk_drew ?_ | refine blk_alloc ?_ _)); exact BK637.out⟩, ⟨by repeat (first | (with_reducible first | exact HB.out | apply below_alloc | apply pw_below_drewN | apply below_drew1 | refine below_set ?_ GE637.out) | exact HB.out)⟩⟩
 case rest =>
  clear HC6
  try clear c1
  try clear c2
  try clear p2
  try clear c4
  try clear c12
  try clear c12b0
  try clear c12b1
  try clear c14
  try clear hcz11_0
  try clear hcz11_1
  try clear hfz11_0
  try clear hfz11_1
  obtain ⟨kq, x33_5, rfl, HA, HJ5, BK637, HB⟩ := hcut
  cases kq with
  | zero => exact absurd HA.out (by simp [comfitlaw04_PacketsTwice.j0])
  | succ kj5 =>
   have H := HA.out
   clear HA
   simp only [comfitlaw04_PacketsTwice.j0] at H
   by_cases c15 : x33_5 = true
   ·subst c15
    have H1 : (if t636 = 2 then ((comfitlaw04_awake.f kj5).bind fun t639 => (some t639)) else (none)) = some r := by rw [if_pos rfl] at H; exact H
    clear H
    have H := H1
    clear H1
    by_cases c16 : t636 = 2
    ·rw [if_pos c16] at H
     have c16b0 : (t636 == 2) = true := beq_iff_eq.mpr c16
     have c16b1 : (t636 != 2) = false := bne_eq_false_iff_eq.mpr c16
     clear c16
     replace H := Option.bind_eq_some_iff.mp H
     obtain ⟨t639, A170, H⟩ := H
     replace H : (some t639) = some r := H
     have A17 := Aside0.mk A170
     clear A170
     obtain rfl := Option.some.inj H
     go_wp2_with (first | (go_at_call 20; (with_reducible refine (comfitlaw04_awake.calls kj5  t639 _ A17.out).mono ?_); rintro e w18 ⟨rfl, hb⟩; have n0_ := Aside0.mk (bkb_ BK637.out hb); have n1_ := Aside0.mk (below_step (hb_ HB.out) hb); clear BK637; clear HB; have BK637 := n0_; have HB := n1_; clear n0_ n1_; (try clear hb); (try clear hb2); (try clear hk); (try clear hi)))
     go_ret
     exact ⟨by first | rfl | (simp [errW_none, errW_some] <;> rfl) | (simp [*, errW_none, errW_some] <;> rfl), by repeat (first | (with_reducible first | exact HB.out | apply below_alloc | apply pw_below_drewN | apply below_drew1 | refine below_set ?_ GE637.out) | exact HB.out)⟩
    ·rw [if_neg c16] at H
     exact absurd H (by simp)
   ·replace c15 := Bool.eq_false_iff.mpr c15
    subst c15
    have H1 : ((comfitlaw04_list.f l0).bind fun t640 => ((packets_Pairs.f kj5 t640 0).bind fun bt643 => ((comfitlaw04_list.f l0).bind fun t647 => ((packets_Mean.f kj5 t647 (wrap64 ((shl .i64 1 (l0.length : Int)) - 1))).bind fun bt650 => (if bt643.2.2 = 0 then (if bt650.2.2 = 0 then (if (!(bt643.1 == bt650.1) || (!(bt643.2.1 == bt650.2.1))) = true then (comfitlaw04_PacketsTwice.j1 kj5 l0 a1 a2 true t634 t635) else ((comfitlaw04_right.f bt643.1 bt643.2.1 400).bind fun t654 => (if t654 = true then ((comfitlaw04_right.f t634 t635 400).bind fun t655 => (if t655 = true then ((comfitref04_Less.f kj5 t634 t635 bt643.1 bt643.2.1).bind fun t656 => (comfitlaw04_PacketsTwice.j1 kj5 l0 a1 a2 t656 t634 t635)) else (comfitlaw04_PacketsTwice.j1 kj5 l0 a1 a2 true t634 t635))) else (comfitlaw04_PacketsTwice.j1 kj5 l0 a1 a2 true t634 t635)))) else (comfitlaw04_PacketsTwice.j1 kj5 l0 a1 a2 true t634 t635)) else (comfitlaw04_PacketsTwice.j1 kj5 l0 a1 a2 true t634 t635)))))) = some r := by rw [if_neg (show ¬ (false = true) by decide)] at H; exact H
    clear H
    have H := H1
    clear H1
    replace H := Option.bind_eq_some_iff.mp H
    obtain ⟨t640, A190, H⟩ := H
    replace H : ((packets_Pairs.f kj5 t640 0).bind fun bt643 => ((comfitlaw04_list.f l0).bind fun t647 => ((packets_Mean.f kj5 t647 (wrap64 ((shl .i64 1 (l0.length : Int)) - 1))).bind fun bt650 => (if bt643.2.2 = 0 then (if bt650.2.2 = 0 then (if (!(bt643.1 == bt650.1) || (!(bt643.2.1 == bt650.2.1))) = true then (comfitlaw04_PacketsTwice.j1 kj5 l0 a1 a2 true t634 t635) else ((comfitlaw04_right.f bt643.1 bt643.2.1 400).bind fun t654 => (if t654 = true then ((comfitlaw04_right.f t634 t635 400).bind fun t655 => (if t655 = true then ((comfitref04_Less.f kj5 t634 t635 bt643.1 bt643.2.1).bind fun t656 => (comfitlaw04_PacketsTwice.j1 kj5 l0 a1 a2 t656 t634 t635)) else (comfitlaw04_PacketsTwice.j1 kj5 l0 a1 a2 true t634 t635))) else (comfitlaw04_PacketsTwice.j1 kj5 l0 a1 a2 true t634 t635)))) else (comfitlaw04_PacketsTwice.j1 kj5 l0 a1 a2 true t634 t635)) else (comfitlaw04_PacketsTwice.j1 kj5 l0 a1 a2 true t634 t635))))) = some r := H
    have A19 := Aside0.mk A190
    clear A190
    replace H := Option.bind_eq_some_iff.mp H
    obtain ⟨⟨t643, t644, t645⟩, A200, H⟩ := H
    replace H : ((comfitlaw04_list.f l0).bind fun t647 => ((packets_Mean.f kj5 t647 (wrap64 ((shl .i64 1 (l0.length : Int)) - 1))).bind fun bt650 => (if t645 = 0 then (if bt650.2.2 = 0 then (if (!(t643 == bt650.1) || (!(t644 == bt650.2.1))) = true then (comfitlaw04_PacketsTwice.j1 kj5 l0 a1 a2 true t634 t635) else ((comfitlaw04_right.f t643 t644 400).bind fun t654 => (if t654 = true then ((comfitlaw04_right.f t634 t635 400).bind fun t655 => (if t655 = true then ((comfitref04_Less.f kj5 t634 t635 t643 t644).bind fun t656 => (comfitlaw04_PacketsTwice.j1 kj5 l0 a1 a2 t656 t634 t635)) else (comfitlaw04_PacketsTwice.j1 kj5 l0 a1 a2 true t634 t635))) else (comfitlaw04_PacketsTwice.j1 kj5 l0 a1 a2 true t634 t635)))) else (comfitlaw04_PacketsTwice.j1 kj5 l0 a1 a2 true t634 t635)) else (comfitlaw04_PacketsTwice.j1 kj5 l0 a1 a2 true t634 t635)))) = some r := H
    have A20 := Aside0.mk A200
    clear A200
    replace H := Option.bind_eq_some_iff.mp H
    obtain ⟨t647, A210, H⟩ := H
    replace H : ((packets_Mean.f kj5 t647 (wrap64 ((shl .i64 1 (l0.length : Int)) - 1))).bind fun bt650 => (if t645 = 0 then (if bt650.2.2 = 0 then (if (!(t643 == bt650.1) || (!(t644 == bt650.2.1))) = true then (comfitlaw04_PacketsTwice.j1 kj5 l0 a1 a2 true t634 t635) else ((comfitlaw04_right.f t643 t644 400).bind fun t654 => (if t654 = true then ((comfitlaw04_right.f t634 t635 400).bind fun t655 => (if t655 = true then ((comfitref04_Less.f kj5 t634 t635 t643 t644).bind fun t656 => (comfitlaw04_PacketsTwice.j1 kj5 l0 a1 a2 t656 t634 t635)) else (comfitlaw04_PacketsTwice.j1 kj5 l0 a1 a2 true t634 t635))) else (comfitlaw04_PacketsTwice.j1 kj5 l0 a1 a2 true t634 t635)))) else (comfitlaw04_PacketsTwice.j1 kj5 l0 a1 a2 true t634 t635)) else (comfitlaw04_PacketsTwice.j1 kj5 l0 a1 a2 true t634 t635))) = some r := H
    have A21 := Aside0.mk A210
    clear A210
    obtain ⟨ji22, hji22⟩ : ∃ j_ : Int, (shl .i64 1 (l0.length : Int)) = j_ := ⟨_, rfl⟩
    replace H : ((packets_Mean.f kj5 t647 (wrap64 ((ji22) - 1))).bind fun bt650 => (if t645 = 0 then (if bt650.2.2 = 0 then (if (!(t643 == bt650.1) || (!(t644 == bt650.2.1))) = true then (comfitlaw04_PacketsTwice.j1 kj5 l0 a1 a2 true t634 t635) else ((comfitlaw04_right.f t643 t644 400).bind fun t654 => (if t654 = true then ((comfitlaw04_right.f t634 t635 400).bind fun t655 => (if t655 = true then ((comfitref04_Less.f kj5 t634 t635 t643 t644).bind fun t656 => (comfitlaw04_PacketsTwice.j1 kj5 l0 a1 a2 t656 t634 t635)) else (comfitlaw04_PacketsTwice.j1 kj5 l0 a1 a2 true t634 t635))) else (comfitlaw04_PacketsTwice.j1 kj5 l0 a1 a2 true t634 t635)))) else (comfitlaw04_PacketsTwice.j1 kj5 l0 a1 a2 true t634 t635)) else (comfitlaw04_PacketsTwice.j1 kj5 l0 a1 a2 true t634 t635))) = some r := by first | (rw [hji22] at H; exact H) | (simp only [hji22] at H ⊢; exact H)
    (try rw [hji22] at A19)
    (try rw [hji22] at A20)
    (try rw [hji22] at A21)
    have hji22_ : (IntKind.i64.wrap (1 * 2 ^ min (l0.length : Int).toNat 64)) = ji22 := hji22
    have hji22z : (l0.length : Int) ≤ 64 → (IntKind.i64.wrap (1 * 2 ^ (l0.length : Int).toNat)) = ji22 := shl_small hji22
    have hji22p : (IntKind.i64.wrap (1 * 2 ^ min l0.length 64)) = ji22 := hji22_
    have hji22q : (l0.length : Int) ≤ 64 → (IntKind.i64.wrap (1 * 2 ^ l0.length)) = ji22 := hji22z
    have hji22r : (IntKind.i64.wrap (2 ^ min l0.length 64)) = ji22 := by have h_ := hji22p; rw [Int.one_mul] at h_; exact h_
    have hji22s : (l0.length : Int) ≤ 64 → (IntKind.i64.wrap (2 ^ l0.length)) = ji22 := fun hle_ => by have h_ := hji22q hle_; rw [Int.one_mul] at h_; exact h_
    have hji22u : (IntKind.i64.wrap (2 ^ min (l0.length : Int).toNat 64)) = ji22 := by have h_ := hji22_; rw [Int.one_mul] at h_; exact h_
    have hji22v : (l0.length : Int) ≤ 64 → (IntKind.i64.wrap (2 ^ (l0.length : Int).toNat)) = ji22 := fun hle_ => by have h_ := hji22z hle_; rw [Int.one_mul] at h_; exact h_
    have hji22y : (wrap64 (1 * 2 ^ min (l0.length : Int).toNat 64)) = ji22 := (i64_w _).symm.trans hji22_
    have hji22x : (l0.length : Int) ≤ 64 → (wrap64 (1 * 2 ^ (l0.length : Int).toNat)) = ji22 := fun h_ => (i64_w _).symm.trans (hji22z h_)
    replace H := Option.bind_eq_some_iff.mp H
    obtain ⟨⟨t650, t651, t652⟩, A230, H⟩ := H
    replace H : (if t645 = 0 then (if t652 = 0 then (if (!(t643 == t650) || (!(t644 == t651))) = true then (comfitlaw04_PacketsTwice.j1 kj5 l0 a1 a2 true t634 t635) else ((comfitlaw04_right.f t643 t644 400).bind fun t654 => (if t654 = true then ((comfitlaw04_right.f t634 t635 400).bind fun t655 => (if t655 = true then ((comfitref04_Less.f kj5 t634 t635 t643 t644).bind fun t656 => (comfitlaw04_PacketsTwice.j1 kj5 l0 a1 a2 t656 t634 t635)) else (comfitlaw04_PacketsTwice.j1 kj5 l0 a1 a2 true t634 t635))) else (comfitlaw04_PacketsTwice.j1 kj5 l0 a1 a2 true t634 t635)))) else (comfitlaw04_PacketsTwice.j1 kj5 l0 a1 a2 true t634 t635)) else (comfitlaw04_PacketsTwice.j1 kj5 l0 a1 a2 true t634 t635)) = some r := H
    have A23 := Aside0.mk A230
    clear A230
    have HC24 := Aside0.mk H
    clear H
    try go_wp2_with (first | ((with_reducible refine gate_callee (f := 22) rfl ?_); refine goesL_ (some 41) rfl rfl Try.func22 (by kernel_rfl) rfl #[.slice A0 l0.length c0] rfl al_ ?_; (with_reducible refine (comfitlaw04_list.calls _ _ l0 t640 _ ?side1 ?side2 A19.out).mono ?_); (case side1 => exact kc_ (Kd.C_below HR0.out HB.out)); (case side2 => exact HC0.out); rintro e w25 ⟨v641, rfl, ho0, hb⟩; refine ⟨_, rfl, ?_⟩; have n0_ := Aside0.mk (Kd.R_lower ho0 (below_size (hb_ HB.out))); have n1_ := Aside0.mk (bkb_ BK637.out hb); have n2_ := Aside0.mk (below_step (hb_ HB.out) hb); clear BK637; clear HB; have HO642 := n0_; have BK637 := n1_; have HB := n2_; clear n0_ n1_ n2_; (try clear hb); (try clear hb2); (try clear hk); (try clear hi); (try clear ho0); obtain ⟨Ao26, co26, eo26⟩ := Kd.R_slice HO642.out; subst eo26) | ((with_reducible refine gate_callee (f := 46) rfl ?_); refine goesL_ (some 42) rfl rfl Try.func46 (by kernel_rfl) rfl #[.slice Ao26 t640.length co26, .int .i64 0] rfl al_ ?_; (with_reducible refine (packets_Pairs.calls kj5 _ _ t640 0 t643 t644 t645 _ ?side1 ?side2 A20.out).mono ?_); (case side1 => exact kc_ (Kd.R_reads' HO642.out).2.2); (case side2 => exact (Kd.R_reads' HO642.out).2.1); rintro e w27 ⟨rfl, hb⟩; refine ⟨_, rfl, ?_⟩; have n0_ := Aside0.mk (Kd.R_below (kr_ (HO642.out)) hb); have n1_ := Aside0.mk (bkb_ BK637.out hb); have n2_ := Aside0.mk (below_step (hb_ HB.out) hb); clear HO642; clear BK637; clear HB; have HO642 := n0_; have BK637 := n1_; have HB := n2_; clear n0_ n1_ n2_; (try clear hb); (try clear hb2); (try clear hk); (try clear hi)) | ((with_reducible refine gate_dst (N := 9) rfl ?_); (try (refine gate_guard (by rfl) ?_; dsimp only)); refine box_event ?hg (N := 9) ?hd (cs := #[.int .i64 0, .int .i64 0]) (t := 25) ?hr ?_; (case hd => rfl); (case hg => rfl); (case hr => first | (go_simp; done) | (go_simp; rfl)); intro gb646 hg w28 hbox hb; have n0_ := Aside0.mk (Kd.R_below (kr_ (HO642.out)) hb); have n1_ := Aside0.mk (bkb_ BK637.out hb); have n2_ := Aside0.mk (below_step (hb_ HB.out) hb); have n3_ := Aside0.mk (hbox); have n4_ := Aside0.mk ((by rw [hg]; exact (below_size (hb_ HB.out)) : w.heap.size ≤ gb646)); have n5_ := Aside0.mk ((by rw [hg]; exact (below_size (hb_ HB.out)) : w.heap.size ≤ gb646)); have n6_ := Aside0.mk ((by rw [hg]; exact Nat.ne_of_lt (bkl_ BK637.out) : gb637 ≠ gb646)); have n7_ := Aside0.mk ((by rw [hg]; exact Nat.ne_of_gt (bkl_ BK637.out) : gb646 ≠ gb637)); clear HO642; clear BK637; clear HB; have HO642 := n0_; have BK637 := n1_; have HB := n2_; have BK646 := n3_; have GW646 := n4_; have GE646 := n5_; have NB637_646 := n6_; have NB646_637 := n7_; clear n0_ n1_ n2_ n3_ n4_ n5_ n6_ n7_; clear hb hbox hg; have hnb29 := NB646_637.out; have hnc29 := NB637_646.out; have hcz30_0 : w28.cell? ⟨gb646, 0, none⟩ = some (.int .i64 0) := (blk_cell BK646.out 0).trans rfl; have hcz30_1 : w28.cell? ⟨gb646, 1, none⟩ = some (.int .i64 0) := (blk_cell BK646.out 1).trans rfl; have hfz30_0 := blk_frozen BK646.out 0; have hfz30_1 := blk_frozen BK646.out 1))
    have n0_ : Aside0 (Kd.R (Kd.int .i64) 3 ((w28.setCell ⟨gb646, 0, none⟩ (.int .i64 t643)).setCell ⟨gb646, 1, none⟩ (.int .i64 t644)) w.heap.size (fun _ => True) (.slice Ao26 t640.length co26) t640) := ⟨by (with_reducible repeat (first | apply Kd.R_alloc | apply Kd.R_drewN | apply Kd.R_drew)); exact Kd.R_mono (Kd.R_far (p := ⟨gb646, 1, none⟩) (Kd.R_far (p := ⟨gb646, 0, none⟩) (Kd.R_types HO642.out BK646.out (by decide)) (fun _ hk => hk.2) (.int .i64 t643)) (fun _ hk => hk.2) (.int .i64 t644)) (fun _ hk => trivial)⟩
    have n1_ : Aside0 (((w28.setCell ⟨gb646, 0, none⟩ (.int .i64 t643)).setCell ⟨gb646, 1, none⟩ (.int .i64 t644)).heap[gb637]? = some (.cells #[.int .i64 t634, .int .i64 t635] 25 (0, 0))) := ⟨by (with_reducible repeat (first | refine blk_drewN ?_ _ | refine blk_drew ?_ | refine blk_alloc ?_ _)); refine blk_far ?_ NB637_646.out _; (with_reducible repeat (first | refine blk_drewN ?_ _ | refine blk_drew ?_ | refine blk_alloc ?_ _)); refine blk_far ?_ NB637_646.out _; (with_reducible repeat (first | refine blk_drewN ?_ _ | refine blk_drew ?_ | refine blk_alloc ?_ _)); exact BK637.out⟩
    have n2_ : Aside0 (((w28.setCell ⟨gb646, 0, none⟩ (.int .i64 t643)).setCell ⟨gb646, 1, none⟩ (.int .i64 t644)).heap[gb646]? = some (.cells #[.int .i64 t643, .int .i64 t644] 25 (0, 0))) := ⟨by (with_reducible repeat (first | refine blk_drewN ?_ _ | refine blk_drew ?_ | refine blk_alloc ?_ _)); refine blk_put (cs := #[.int .i64 t643, .int .i64 0]) ?_ 1 _ rfl; (with_reducible repeat (first | refine blk_drewN ?_ _ | refine blk_drew ?_ | refine blk_alloc ?_ _)); refine blk_put (cs := #[.int .i64 0, .int .i64 0]) ?_ 0 _ rfl; (with_reducible repeat (first | refine blk_drewN ?_ _ | refine blk_drew ?_ | refine blk_alloc ?_ _)); exact BK646.out⟩
    have n3_ : Aside0 (Below w.heap.size w ((w28.setCell ⟨gb646, 0, none⟩ (.int .i64 t643)).setCell ⟨gb646, 1, none⟩ (.int .i64 t644))) := ⟨by repeat (first | (with_reducible first | exact HB.out | apply below_alloc | apply pw_below_drewN | apply below_drew1 | refine below_set ?_ GE637.out | refine below_set ?_ GE646.out) | exact HB.out)⟩
    (try clear HO642)
    (try clear BK637)
    (try clear BK646)
    (try clear HB)
    generalize ((w28.setCell ⟨gb646, 0, none⟩ (.int .i64 t643)).setCell ⟨gb646, 1, none⟩ (.int .i64 t644)) = w31 at n0_ n1_ n2_ n3_ ⊢
    have HO642 := n0_
    have BK637 := n1_
    have BK646 := n2_
    have HB := n3_
    clear n0_ n1_ n2_ n3_
    have n0_ := Aside0.mk (Kd.R_drew HO642.out)
    have n1_ := Aside0.mk (blk_drew BK637.out)
    have n2_ := Aside0.mk (blk_drew BK646.out)
    have n3_ := Aside0.mk (below_drew1 HB.out)
    clear HO642
    clear BK637
    clear BK646
    clear HB
    have HO642 := n0_
    have BK637 := n1_
    have BK646 := n2_
    have HB := n3_
    clear n0_ n1_ n2_ n3_
    refine start_ (n := 13) (S := fun w' => True) (ds := []) #[false, false, false, false, false, false, false, false, false, false, false, false, false] (by kernel_rfl) rfl rfl trivial (fun hHeld => ?_); refine with_tabW comfitlaw04_PacketsTwice.tab5 comfitlaw04_PacketsTwice.bits5 (fun HT_ HW_ => ?_)
    generalize w31.drew = w32 at HO642 BK637 BK646 HB hHeld ⊢
    refine pure_ (i := 0) (N := some 46) (v := ?_) (a' := ?_) #[true, false, false, false, false, false, false, false, false, false, false, false, false] rfl rfl (any_of HT_.out (by kernel_rfl)) (fun _ _ _ h => h) (Or.inl ⟨by rfl, ?_⟩) ?_ ?_
    rotate_left
    ·intro w'
     go_simp
     with_reducible rfl
    rotate_left
    ·simp only [Act.put, List.setIfInBounds_toArray, List.set_cons_zero, List.set_cons_succ, i64_w, i32_w]
     rfl
    refine pure_ (i := 2) (N := some 48) (v := ?_) (a' := ?_) #[true, false, true, false, false, false, false, false, false, false, false, false, false] rfl rfl (any_of HT_.out (by kernel_rfl)) (fun _ _ _ h => h) (Or.inl ⟨by rfl, ?_⟩) ?_ ?_
    rotate_left
    ·intro w'
     go_simp
     with_reducible rfl
    rotate_left
    ·simp only [Act.put, List.setIfInBounds_toArray, List.set_cons_zero, List.set_cons_succ, i64_w, i32_w]
     rfl
    refine pure_ (i := 3) (N := some 49) (v := ?_) (a' := ?_) #[true, false, true, true, false, false, false, false, false, false, false, false, false] rfl rfl (any_of HT_.out (by kernel_rfl)) (fun _ _ _ h => h) (Or.inl ⟨by rfl, ?_⟩) ?_ ?_
    rotate_left
    ·intro w'
     go_simp
     with_reducible rfl
    rotate_left
    ·simp only [Act.put, List.setIfInBounds_toArray, List.set_cons_zero, List.set_cons_succ, i64_w, i32_w]
     rfl
    refine pure_ (i := 4) (N := some 50) (v := ?_) (a' := ?_) #[true, false, true, true, true, false, false, false, false, false, false, false, false] rfl rfl (any_of HT_.out (by kernel_rfl)) (fun _ _ _ h => h) (Or.inl ⟨by rfl, ?_⟩) ?_ ?_
    rotate_left
    ·intro w'
     go_simp
     with_reducible rfl
    rotate_left
    ·simp only [Act.put, List.setIfInBounds_toArray, List.set_cons_zero, List.set_cons_succ, i64_w, i32_w]
     rfl
    refine pure_ (i := 5) (N := some 51) (v := ?_) (a' := ?_) #[true, false, true, true, true, true, false, false, false, false, false, false, false] rfl rfl (any_of HT_.out (by kernel_rfl)) (fun _ _ _ h => h) (Or.inl ⟨by rfl, ?_⟩) ?_ ?_
    rotate_left
    ·intro w'
     go_simp
     with_reducible rfl
    rotate_left
    ·simp only [Act.put, List.setIfInBounds_toArray, List.set_cons_zero, List.set_cons_succ, i64_w, i32_w]
     rfl
    refine join_ (σ := Value × Nat) 2 #[true, true, true, true, true, true, true, true, true, true, true, false, false] (fun s_ => [(47, s_.1), (52, .tuple #[.agg #[.int .i64 t650, .int .i64 t651], .int .i64 t652]), (11, .pointer (some ⟨s_.2, 0, none⟩)), (45, .tuple #[.agg #[.int .i64 t650, .int .i64 t651], .int .i64 t652]), (53, .agg #[.int .i64 t650, .int .i64 t651]), (54, .int .i64 t652)]) (fun s_ w' => (Kd.R (Kd.int .i64) 3 w' w.heap.size (fun k_ => some k_ ≠ (s_.1 : Value).ownBlock) (.slice Ao26 t640.length co26) t640) ∧ (Kd.R (Kd.int .i64) 3 w' w.heap.size (fun k_ => some k_ ≠ (.slice Ao26 t640.length co26 : Value).ownBlock) s_.1 t647) ∧ (w'.heap[gb637]? = some (.cells #[.int .i64 t634, .int .i64 t635] 25 (0, 0))) ∧ (w'.heap[gb646]? = some (.cells #[.int .i64 t643, .int .i64 t644] 25 (0, 0))) ∧ (w'.heap[s_.2]? = some (.cells #[.int .i64 0, .int .i64 0] 25 (0, 0))) ∧ (w.heap.size ≤ s_.2) ∧ (w.heap.size ≤ s_.2) ∧ (gb637 ≠ s_.2) ∧ (s_.2 ≠ gb637) ∧ (gb646 ≠ s_.2) ∧ (s_.2 ≠ gb646) ∧ (Below w.heap.size w w')) ?_ ?_
    rotate_left
    ·intro hCont
     refine two_ (i := 1) (j := 10) (Ni := some 47) (Nj := some 11) #[true, true, true, true, true, true, false, false, false, false, false, false, false] #[true, false, true, true, true, true, false, false, false, false, true, false, false] rfl rfl rfl rfl (two_of HT_.out (by kernel_rfl)) (by decide) (by decide) (fun K hK => ?_) (fun K hK => ?_)
     ·skip
      refine goes_ Try.func22 (by kernel_rfl) rfl #[.slice A0 l0.length c0] (by rfl) rfl rfl al_ ?_
      with_reducible refine (comfitlaw04_list.calls _ _ l0 t647 _ ?side1 ?side2 A21.out).mono ?_
      (case side1 => exact kc_ (Kd.C_below HR0.out HB.out))
      (case side2 => exact HC0.out)
      rintro e w33 ⟨v648, rfl, ho0, hb⟩
      refine ⟨_, rfl, ?_⟩
      have n0_ := Aside0.mk (Kd.R_elder' (kr_ (HO642.out)) (Kd.R_base ho0) hb)
      have n1_ := Aside0.mk (Kd.R_lower (Kd.R_new' ho0 (Kd.R_lt (kr_ (HO642.out)))) (below_size (hb_ HB.out)))
      have n2_ := Aside0.mk (bkb_ BK637.out hb)
      have n3_ := Aside0.mk (bkb_ BK646.out hb)
      have n4_ := Aside0.mk (below_step (hb_ HB.out) hb)
      clear HO642
      clear BK637
      clear BK646
      clear HB
      have HO642 := n0_
      have HO649 := n1_
      have BK637 := n2_
      have BK646 := n3_
      have HB := n4_
      clear n0_ n1_ n2_ n3_ n4_
      (try clear hb)
      (try clear hb2)
      (try clear hk)
      (try clear hi)
      (try clear ho0)
      obtain ⟨Ao34, co34, eo34⟩ := Kd.R_slice HO649.out
      (first | subst eo34 | (injection eo34 with f1_ f2_ f3_; have f4_ := f1_.symm; have f5_ := f3_.symm; clear f1_ f2_ f3_; subst f4_; subst f5_))
      refine hK.out _ _ trivial (fun hHeld => ?_)
      clear hK K
      refine norm_ (a' := ?_) ?_ ?_
      rotate_left
      ·show Act.put _ (some 47) _ = _
       simp only [Act.put, List.setIfInBounds_toArray, List.set_cons_zero, List.set_cons_succ, i64_w, i32_w]
       rfl
      refine two_ (i := 6) (j := 10) (Ni := some 52) (Nj := some 11) #[true, true, true, true, true, true, true, false, false, false, false, false, false] #[true, true, true, true, true, true, false, false, false, false, true, false, false] rfl rfl rfl rfl (two_of HT_.out (by kernel_rfl)) (by decide) (by decide) (fun K hK => ?_) (fun K hK => ?_)
      ·skip
       refine goes_ Try.func18 (by kernel_rfl) rfl #[.slice Ao34 t647.length co34, .int .i64 (wrap64 ((ji22) - 1))] (by rfl) rfl rfl (by (try simp only [List.map_toArray, List.map_cons, List.map_nil]); first | done | (simp only [hji22]; rfl) | rfl | (simp only [List.length_drop, List.length_take]; rfl)) ?_
       with_reducible refine (packets_Mean.calls kj5 _ _ t647 (wrap64 ((ji22) - 1)) t650 t651 t652 _ ?side1 ?side2 A23.out).mono ?_
       (case side1 => exact kc_ (Kd.R_reads' HO649.out).2.2)
       (case side2 => exact (Kd.R_reads' HO649.out).2.1)
       rintro e w35 ⟨rfl, hb⟩
       refine ⟨_, rfl, ?_⟩
       have n0_ := Aside0.mk (Kd.R_below (kr_ (HO642.out)) hb)
       have n1_ := Aside0.mk (Kd.R_below (kr_ (HO649.out)) hb)
       have n2_ := Aside0.mk (bkb_ BK637.out hb)
       have n3_ := Aside0.mk (bkb_ BK646.out hb)
       have n4_ := Aside0.mk (below_step (hb_ HB.out) hb)
       clear HO642
       clear HO649
       clear BK637
       clear BK646
       clear HB
       have HO642 := n0_
       have HO649 := n1_
       have BK637 := n2_
       have BK646 := n3_
       have HB := n4_
       clear n0_ n1_ n2_ n3_ n4_
       (try clear hb)
       (try clear hb2)
       (try clear hk)
       (try clear hi)
       refine hK.out _ _ trivial (fun hHeld => ?_)
       clear hK K
       refine norm_ (a' := ?_) ?_ ?_
       rotate_left
       ·show Act.put _ (some 52) _ = _
        simp only [Act.put, List.setIfInBounds_toArray, List.set_cons_zero, List.set_cons_succ, i64_w, i32_w]
        rfl
       refine pure_ (i := 7) (N := some 45) (v := ?_) (a' := ?_) #[true, true, true, true, true, true, true, true, false, false, false, false, false] rfl rfl (any_of HT_.out (by kernel_rfl)) (fun _ _ _ h => h) (Or.inl ⟨by rfl, ?_⟩) ?_ ?_
       rotate_left
       ·intro w'
        go_simp
        with_reducible rfl
       rotate_left
       ·simp only [Act.put, List.setIfInBounds_toArray, List.set_cons_zero, List.set_cons_succ, i64_w, i32_w]
        rfl
       refine pure_ (i := 8) (N := some 53) (v := ?_) (a' := ?_) #[true, true, true, true, true, true, true, true, true, false, false, false, false] rfl rfl (any_of HT_.out (by kernel_rfl)) (fun _ _ _ h => h) (Or.inl ⟨by rfl, ?_⟩) ?_ ?_
       rotate_left
       ·intro w'
        go_simp
        with_reducible rfl
       rotate_left
       ·simp only [Act.put, List.setIfInBounds_toArray, List.set_cons_zero, List.set_cons_succ, i64_w, i32_w]
        rfl
       refine pure_ (i := 9) (N := some 54) (v := ?_) (a' := ?_) #[true, true, true, true, true, true, true, true, true, true, false, false, false] rfl rfl (any_of HT_.out (by kernel_rfl)) (fun _ _ _ h => h) (Or.inl ⟨by rfl, ?_⟩) ?_ ?_
       rotate_left
       ·intro w'
        go_simp
        with_reducible rfl
       rotate_left
       ·simp only [Act.put, List.setIfInBounds_toArray, List.set_cons_zero, List.set_cons_succ, i64_w, i32_w]
        rfl
       refine one_ (i := 10) (N := some 11) #[true, true, true, true, true, true, true, true, true, true, true, false, false] rfl rfl (one_of HT_.out (by kernel_rfl)) (by decide) (fun K hK => ?_)
       refine box_step ?hg (N := 11) ?hd (cs := #[.int .i64 0, .int .i64 0]) (t := 25) ?hr ?_; (case hd => rfl); (case hg => rfl); (case hr => first | (go_simp; done) | (go_simp; rfl))
       intro gb653 hg w36 hbox hb
       have n0_ := Aside0.mk (Kd.R_below (kr_ (HO642.out)) hb)
       have n1_ := Aside0.mk (Kd.R_below (kr_ (HO649.out)) hb)
       have n2_ := Aside0.mk (bkb_ BK637.out hb)
       have n3_ := Aside0.mk (bkb_ BK646.out hb)
       have n4_ := Aside0.mk (below_step (hb_ HB.out) hb)
       have n5_ := Aside0.mk (hbox)
       have n6_ := Aside0.mk ((by rw [hg]; exact (below_size (hb_ HB.out)) : w.heap.size ≤ gb653))
       have n7_ := Aside0.mk ((by rw [hg]; exact (below_size (hb_ HB.out)) : w.heap.size ≤ gb653))
       have n8_ := Aside0.mk ((by rw [hg]; exact Nat.ne_of_lt (bkl_ BK637.out) : gb637 ≠ gb653))
       have n9_ := Aside0.mk ((by rw [hg]; exact Nat.ne_of_gt (bkl_ BK637.out) : gb653 ≠ gb637))
       have n10_ := Aside0.mk ((by rw [hg]; exact Nat.ne_of_lt (bkl_ BK646.out) : gb646 ≠ gb653))
       have n11_ := Aside0.mk ((by rw [hg]; exact Nat.ne_of_gt (bkl_ BK646.out) : gb653 ≠ gb646))
       clear HO642
       clear HO649
       clear BK637
       clear BK646
       clear HB
       have HO642 := n0_
       have HO649 := n1_
       have BK637 := n2_
       have BK646 := n3_
       have HB := n4_
       have BK653 := n5_
       have GW653 := n6_
       have GE653 := n7_
       have NB637_653 := n8_
       have NB653_637 := n9_
       have NB646_653 := n10_
       have NB653_646 := n11_
       clear n0_ n1_ n2_ n3_ n4_ n5_ n6_ n7_ n8_ n9_ n10_ n11_
       clear hb hbox hg
       refine hK.out _ _ trivial (fun hHeld => ?_)
       clear hK K
       refine norm_ (a' := ?_) ?_ ?_
       rotate_left
       ·show Act.put _ (some 11) _ = _
        simp only [Act.put, List.setIfInBounds_toArray, List.set_cons_zero, List.set_cons_succ, i64_w, i32_w]
        rfl
       exact norm_ (by simp only [putAll, Act.put, List.setIfInBounds_toArray, List.set_cons_zero, List.set_cons_succ]) (hCont (.slice Ao34 t647.length co34, gb653) _ ⟨(by (with_reducible repeat (first | apply Kd.R_alloc | apply Kd.R_drewN | apply Kd.R_drew)); exact Kd.R_mono HO642.out (fun _ hk => hk.2)), (by (with_reducible repeat (first | apply Kd.R_alloc | apply Kd.R_drewN | apply Kd.R_drew)); exact Kd.R_mono HO649.out (fun _ hk => hk.2)), (bk_ BK637.out), (bk_ BK646.out), (bk_ BK653.out), GW653.out, GE653.out, NB637_653.out, NB653_637.out, NB646_653.out, NB653_646.out, (hb_ HB.out)⟩)
      ·skip
       refine box_step ?hg (N := 11) ?hd (cs := #[.int .i64 0, .int .i64 0]) (t := 25) ?hr ?_; (case hd => rfl); (case hg => rfl); (case hr => first | (go_simp; done) | (go_simp; rfl))
       intro gb653 hg w34 hbox hb
       have n0_ := Aside0.mk (Kd.R_below (kr_ (HO642.out)) hb)
       have n1_ := Aside0.mk (Kd.R_below (kr_ (HO649.out)) hb)
       have n2_ := Aside0.mk (bkb_ BK637.out hb)
       have n3_ := Aside0.mk (bkb_ BK646.out hb)
       have n4_ := Aside0.mk (below_step (hb_ HB.out) hb)
       have n5_ := Aside0.mk (hbox)
       have n6_ := Aside0.mk ((by rw [hg]; exact (below_size (hb_ HB.out)) : w.heap.size ≤ gb653))
       have n7_ := Aside0.mk ((by rw [hg]; exact (below_size (hb_ HB.out)) : w.heap.size ≤ gb653))
       have n8_ := Aside0.mk ((by rw [hg]; exact Nat.ne_of_lt (bkl_ BK637.out) : gb637 ≠ gb653))
       have n9_ := Aside0.mk ((by rw [hg]; exact Nat.ne_of_gt (bkl_ BK637.out) : gb653 ≠ gb637))
       have n10_ := Aside0.mk ((by rw [hg]; exact Nat.ne_of_lt (bkl_ BK646.out) : gb646 ≠ gb653))
       have n11_ := Aside0.mk ((by rw [hg]; exact Nat.ne_of_gt (bkl_ BK646.out) : gb653 ≠ gb646))
       clear HO642
       clear HO649
       clear BK637
       clear BK646
       clear HB
       have HO642 := n0_
       have HO649 := n1_
       have BK637 := n2_
       have BK646 := n3_
       have HB := n4_
       have BK653 := n5_
       have GW653 := n6_
       have GE653 := n7_
       have NB637_653 := n8_
       have NB653_637 := n9_
       have NB646_653 := n10_
       have NB653_646 := n11_
       clear n0_ n1_ n2_ n3_ n4_ n5_ n6_ n7_ n8_ n9_ n10_ n11_
       clear hb hbox hg
       obtain ⟨Ao35, co35, eo35⟩ := Kd.R_slice HO649.out
       (first | subst eo35 | (injection eo35 with f1_ f2_ f3_; have f4_ := f1_.symm; have f5_ := f3_.symm; clear f1_ f2_ f3_; subst f4_; subst f5_))
       refine hK.out _ _ trivial (fun hHeld => ?_)
       clear hK K
       refine norm_ (a' := ?_) ?_ ?_
       rotate_left
       ·show Act.put _ (some 11) _ = _
        simp only [Act.put, List.setIfInBounds_toArray, List.set_cons_zero, List.set_cons_succ, i64_w, i32_w]
        rfl
       refine one_ (i := 6) (N := some 52) #[true, true, true, true, true, true, true, false, false, false, true, false, false] rfl rfl (one_of HT_.out (by kernel_rfl)) (by decide) (fun K hK => ?_)
       refine goes_ Try.func18 (by kernel_rfl) rfl #[.slice Ao35 t647.length co35, .int .i64 (wrap64 ((ji22) - 1))] (by rfl) rfl rfl (by (try simp only [List.map_toArray, List.map_cons, List.map_nil]); first | done | (simp only [hji22]; rfl) | rfl | (simp only [List.length_drop, List.length_take]; rfl)) ?_
       with_reducible refine (packets_Mean.calls kj5 _ _ t647 (wrap64 ((ji22) - 1)) t650 t651 t652 _ ?side1 ?side2 A23.out).mono ?_
       (case side1 => exact kc_ (Kd.R_reads' HO649.out).2.2)
       (case side2 => exact (Kd.R_reads' HO649.out).2.1)
       rintro e w36 ⟨rfl, hb⟩
       refine ⟨_, rfl, ?_⟩
       have n0_ := Aside0.mk (Kd.R_below (kr_ (HO642.out)) hb)
       have n1_ := Aside0.mk (Kd.R_below (kr_ (HO649.out)) hb)
       have n2_ := Aside0.mk (bkb_ BK637.out hb)
       have n3_ := Aside0.mk (bkb_ BK646.out hb)
       have n4_ := Aside0.mk (bkb_ BK653.out hb)
       have n5_ := Aside0.mk (below_step (hb_ HB.out) hb)
       clear HO642
       clear HO649
       clear BK637
       clear BK646
       clear BK653
       clear HB
       have HO642 := n0_
       have HO649 := n1_
       have BK637 := n2_
       have BK646 := n3_
       have BK653 := n4_
       have HB := n5_
       clear n0_ n1_ n2_ n3_ n4_ n5_
       (try clear hb)
       (try clear hb2)
       (try clear hk)
       (try clear hi)
       refine hK.out _ _ trivial (fun hHeld => ?_)
       clear hK K
       refine norm_ (a' := ?_) ?_ ?_
       rotate_left
       ·show Act.put _ (some 52) _ = _
        simp only [Act.put, List.setIfInBounds_toArray, List.set_cons_zero, List.set_cons_succ, i64_w, i32_w]
        rfl
       refine pure_ (i := 7) (N := some 45) (v := ?_) (a' := ?_) #[true, true, true, true, true, true, true, true, false, false, true, false, false] rfl rfl (any_of HT_.out (by kernel_rfl)) (fun _ _ _ h => h) (Or.inl ⟨by rfl, ?_⟩) ?_ ?_
       rotate_left
       ·intro w'
        go_simp
        with_reducible rfl
       rotate_left
       ·simp only [Act.put, List.setIfInBounds_toArray, List.set_cons_zero, List.set_cons_succ, i64_w, i32_w]
        rfl
       refine pure_ (i := 8) (N := some 53) (v := ?_) (a' := ?_) #[true, true, true, true, true, true, true, true, true, false, true, false, false] rfl rfl (any_of HT_.out (by kernel_rfl)) (fun _ _ _ h => h) (Or.inl ⟨by rfl, ?_⟩) ?_ ?_
       rotate_left
       ·intro w'
        go_simp
        with_reducible rfl
       rotate_left
       ·simp only [Act.put, List.setIfInBounds_toArray, List.set_cons_zero, List.set_cons_succ, i64_w, i32_w]
        rfl
       refine pure_ (i := 9) (N := some 54) (v := ?_) (a' := ?_) #[true, true, true, true, true, true, true, true, true, true, true, false, false] rfl rfl (any_of HT_.out (by kernel_rfl)) (fun _ _ _ h => h) (Or.inl ⟨by rfl, ?_⟩) ?_ ?_
       rotate_left
       ·intro w'
        go_simp
        with_reducible rfl
       rotate_left
       ·simp only [Act.put, List.setIfInBounds_toArray, List.set_cons_zero, List.set_cons_succ, i64_w, i32_w]
        rfl
       exact norm_ (by simp only [putAll, Act.put, List.setIfInBounds_toArray, List.set_cons_zero, List.set_cons_succ]) (hCont (.slice Ao35 t647.length co35, gb653) _ ⟨(by (with_reducible repeat (first | apply Kd.R_alloc | apply Kd.R_drewN | apply Kd.R_drew)); exact Kd.R_mono HO642.out (fun _ hk => hk.2)), (by (with_reducible repeat (first | apply Kd.R_alloc | apply Kd.R_drewN | apply Kd.R_drew)); exact Kd.R_mono HO649.out (fun _ hk => hk.2)), (bk_ BK637.out), (bk_ BK646.out), (bk_ BK653.out), GW653.out, GE653.out, NB637_653.out, NB653_637.out, NB646_653.out, NB653_646.out, (hb_ HB.out)⟩)
     ·skip
      refine box_step ?hg (N := 11) ?hd (cs := #[.int .i64 0, .int .i64 0]) (t := 25) ?hr ?_; (case hd => rfl); (case hg => rfl); (case hr => first | (go_simp; done) | (go_simp; rfl))
      intro gb653 hg w33 hbox hb
      have n0_ := Aside0.mk (Kd.R_below (kr_ (HO642.out)) hb)
      have n1_ := Aside0.mk (bkb_ BK637.out hb)
      have n2_ := Aside0.mk (bkb_ BK646.out hb)
      have n3_ := Aside0.mk (below_step (hb_ HB.out) hb)
      have n4_ := Aside0.mk (hbox)
      have n5_ := Aside0.mk ((by rw [hg]; exact (below_size (hb_ HB.out)) : w.heap.size ≤ gb653))
      have n6_ := Aside0.mk ((by rw [hg]; exact (below_size (hb_ HB.out)) : w.heap.size ≤ gb653))
      have n7_ := Aside0.mk ((by rw [hg]; exact Nat.ne_of_lt (bkl_ BK637.out) : gb637 ≠ gb653))
      have n8_ := Aside0.mk ((by rw [hg]; exact Nat.ne_of_gt (bkl_ BK637.out) : gb653 ≠ gb637))
      have n9_ := Aside0.mk ((by rw [hg]; exact Nat.ne_of_lt (bkl_ BK646.out) : gb646 ≠ gb653))
      have n10_ := Aside0.mk ((by rw [hg]; exact Nat.ne_of_gt (bkl_ BK646.out) : gb653 ≠ gb646))
      clear HO642
      clear BK637
      clear BK646
      clear HB
      have HO642 := n0_
      have BK637 := n1_
      have BK646 := n2_
      have HB := n3_
      have BK653 := n4_
      have GW653 := n5_
      have GE653 := n6_
      have NB637_653 := n7_
      have NB653_637 := n8_
      have NB646_653 := n9_
      have NB653_646 := n10_
      clear n0_ n1_ n2_ n3_ n4_ n5_ n6_ n7_ n8_ n9_ n10_
      clear hb hbox hg
      refine hK.out _ _ trivial (fun hHeld => ?_)
      clear hK K
      refine norm_ (a' := ?_) ?_ ?_
      rotate_left
      ·show Act.put _ (some 11) _ = _
       simp only [Act.put, List.setIfInBounds_toArray, List.set_cons_zero, List.set_cons_succ, i64_w, i32_w]
       rfl
      refine one_ (i := 1) (N := some 47) #[true, true, true, true, true, true, false, false, false, false, true, false, false] rfl rfl (one_of HT_.out (by kernel_rfl)) (by decide) (fun K hK => ?_)
      refine goes_ Try.func22 (by kernel_rfl) rfl #[.slice A0 l0.length c0] (by rfl) rfl rfl al_ ?_
      with_reducible refine (comfitlaw04_list.calls _ _ l0 t647 _ ?side1 ?side2 A21.out).mono ?_
      (case side1 => exact kc_ (Kd.C_below HR0.out HB.out))
      (case side2 => exact HC0.out)
      rintro e w34 ⟨v648, rfl, ho0, hb⟩
      refine ⟨_, rfl, ?_⟩
      have n0_ := Aside0.mk (Kd.R_elder' (kr_ (HO642.out)) (Kd.R_base ho0) hb)
      have n1_ := Aside0.mk (Kd.R_lower (Kd.R_new' ho0 (Kd.R_lt (kr_ (HO642.out)))) (below_size (hb_ HB.out)))
      have n2_ := Aside0.mk (bkb_ BK637.out hb)
      have n3_ := Aside0.mk (bkb_ BK646.out hb)
      have n4_ := Aside0.mk (bkb_ BK653.out hb)
      have n5_ := Aside0.mk (below_step (hb_ HB.out) hb)
      clear HO642
      clear BK637
      clear BK646
      clear BK653
      clear HB
      have HO642 := n0_
      have HO649 := n1_
      have BK637 := n2_
      have BK646 := n3_
      have BK653 := n4_
      have HB := n5_
      clear n0_ n1_ n2_ n3_ n4_ n5_
      (try clear hb)
      (try clear hb2)
      (try clear hk)
      (try clear hi)
      (try clear ho0)
      obtain ⟨Ao35, co35, eo35⟩ := Kd.R_slice HO649.out
      (first | subst eo35 | (injection eo35 with f1_ f2_ f3_; have f4_ := f1_.symm; have f5_ := f3_.symm; clear f1_ f2_ f3_; subst f4_; subst f5_))
      refine hK.out _ _ trivial (fun hHeld => ?_)
      clear hK K
      refine norm_ (a' := ?_) ?_ ?_
      rotate_left
      ·show Act.put _ (some 47) _ = _
       simp only [Act.put, List.setIfInBounds_toArray, List.set_cons_zero, List.set_cons_succ, i64_w, i32_w]
       rfl
      refine one_ (i := 6) (N := some 52) #[true, true, true, true, true, true, true, false, false, false, true, false, false] rfl rfl (one_of HT_.out (by kernel_rfl)) (by decide) (fun K hK => ?_)
      refine goes_ Try.func18 (by kernel_rfl) rfl #[.slice Ao35 t647.length co35, .int .i64 (wrap64 ((ji22) - 1))] (by rfl) rfl rfl (by (try simp only [List.map_toArray, List.map_cons, List.map_nil]); first | done | (simp only [hji22]; rfl) | rfl | (simp only [List.length_drop, List.length_take]; rfl)) ?_
      with_reducible refine (packets_Mean.calls kj5 _ _ t647 (wrap64 ((ji22) - 1)) t650 t651 t652 _ ?side1 ?side2 A23.out).mono ?_
      (case side1 => exact kc_ (Kd.R_reads' HO649.out).2.2)
      (case side2 => exact (Kd.R_reads' HO649.out).2.1)
      rintro e w36 ⟨rfl, hb⟩
      refine ⟨_, rfl, ?_⟩
      have n0_ := Aside0.mk (Kd.R_below (kr_ (HO642.out)) hb)
      have n1_ := Aside0.mk (Kd.R_below (kr_ (HO649.out)) hb)
      have n2_ := Aside0.mk (bkb_ BK637.out hb)
      have n3_ := Aside0.mk (bkb_ BK646.out hb)
      have n4_ := Aside0.mk (bkb_ BK653.out hb)
      have n5_ := Aside0.mk (below_step (hb_ HB.out) hb)
      clear HO642
      clear HO649
      clear BK637
      clear BK646
      clear BK653
      clear HB
      have HO642 := n0_
      have HO649 := n1_
      have BK637 := n2_
      have BK646 := n3_
      have BK653 := n4_
      have HB := n5_
      clear n0_ n1_ n2_ n3_ n4_ n5_
      (try clear hb)
      (try clear hb2)
      (try clear hk)
      (try clear hi)
      refine hK.out _ _ trivial (fun hHeld => ?_)
      clear hK K
      refine norm_ (a' := ?_) ?_ ?_
      rotate_left
      ·show Act.put _ (some 52) _ = _
       simp only [Act.put, List.setIfInBounds_toArray, List.set_cons_zero, List.set_cons_succ, i64_w, i32_w]
       rfl
      refine pure_ (i := 7) (N := some 45) (v := ?_) (a' := ?_) #[true, true, true, true, true, true, true, true, false, false, true, false, false] rfl rfl (any_of HT_.out (by kernel_rfl)) (fun _ _ _ h => h) (Or.inl ⟨by rfl, ?_⟩) ?_ ?_
      rotate_left
      ·intro w'
       go_simp
       with_reducible rfl
      rotate_left
      ·simp only [Act.put, List.setIfInBounds_toArray, List.set_cons_zero, List.set_cons_succ, i64_w, i32_w]
       rfl
      refine pure_ (i := 8) (N := some 53) (v := ?_) (a' := ?_) #[true, true, true, true, true, true, true, true, true, false, true, false, false] rfl rfl (any_of HT_.out (by kernel_rfl)) (fun _ _ _ h => h) (Or.inl ⟨by rfl, ?_⟩) ?_ ?_
      rotate_left
      ·intro w'
       go_simp
       with_reducible rfl
      rotate_left
      ·simp only [Act.put, List.setIfInBounds_toArray, List.set_cons_zero, List.set_cons_succ, i64_w, i32_w]
       rfl
      refine pure_ (i := 9) (N := some 54) (v := ?_) (a' := ?_) #[true, true, true, true, true, true, true, true, true, true, true, false, false] rfl rfl (any_of HT_.out (by kernel_rfl)) (fun _ _ _ h => h) (Or.inl ⟨by rfl, ?_⟩) ?_ ?_
      rotate_left
      ·intro w'
       go_simp
       with_reducible rfl
      rotate_left
      ·simp only [Act.put, List.setIfInBounds_toArray, List.set_cons_zero, List.set_cons_succ, i64_w, i32_w]
       rfl
      exact norm_ (by simp only [putAll, Act.put, List.setIfInBounds_toArray, List.set_cons_zero, List.set_cons_succ]) (hCont (.slice Ao35 t647.length co35, gb653) _ ⟨(by (with_reducible repeat (first | apply Kd.R_alloc | apply Kd.R_drewN | apply Kd.R_drew)); exact Kd.R_mono HO642.out (fun _ hk => hk.2)), (by (with_reducible repeat (first | apply Kd.R_alloc | apply Kd.R_drewN | apply Kd.R_drew)); exact Kd.R_mono HO649.out (fun _ hk => hk.2)), (bk_ BK637.out), (bk_ BK646.out), (bk_ BK653.out), GW653.out, GE653.out, NB637_653.out, NB653_637.out, NB646_653.out, NB653_646.out, (hb_ HB.out)⟩)
    rintro ⟨v648, gb653⟩ w37 ⟨h0_, h1_, h2_, h3_, h4_, h5_, h6_, h7_, h8_, h9_, h10_, h11_⟩
    have n0_ : Aside0 (Kd.R (Kd.int .i64) 3 w37 w.heap.size (fun k_ => some k_ ≠ (v648 : Value).ownBlock) (.slice Ao26 t640.length co26) t640) := ⟨h0_⟩
    have n1_ : Aside0 (Kd.R (Kd.int .i64) 3 w37 w.heap.size (fun k_ => some k_ ≠ (.slice Ao26 t640.length co26 : Value).ownBlock) v648 t647) := ⟨h1_⟩
    have n2_ : Aside0 (w37.heap[gb637]? = some (.cells #[.int .i64 t634, .int .i64 t635] 25 (0, 0))) := ⟨h2_⟩
    have n3_ : Aside0 (w37.heap[gb646]? = some (.cells #[.int .i64 t643, .int .i64 t644] 25 (0, 0))) := ⟨h3_⟩
    have n4_ : Aside0 (w37.heap[gb653]? = some (.cells #[.int .i64 0, .int .i64 0] 25 (0, 0))) := ⟨h4_⟩
    have n5_ : Aside0 (w.heap.size ≤ gb653) := ⟨h5_⟩
    have n6_ : Aside0 (w.heap.size ≤ gb653) := ⟨h6_⟩
    have n7_ : Aside0 (gb637 ≠ gb653) := ⟨h7_⟩
    have n8_ : Aside0 (gb653 ≠ gb637) := ⟨h8_⟩
    have n9_ : Aside0 (gb646 ≠ gb653) := ⟨h9_⟩
    have n10_ : Aside0 (gb653 ≠ gb646) := ⟨h10_⟩
    have n11_ : Aside0 (Below w.heap.size w w37) := ⟨h11_⟩
    clear HO642
    clear BK637
    clear BK646
    clear HB
    clear h0_ h1_ h2_ h3_ h4_ h5_ h6_ h7_ h8_ h9_ h10_ h11_
    have HO642 := n0_
    have HO649 := n1_
    have BK637 := n2_
    have BK646 := n3_
    have BK653 := n4_
    have GW653 := n5_
    have GE653 := n6_
    have NB637_653 := n7_
    have NB653_637 := n8_
    have NB646_653 := n9_
    have NB653_646 := n10_
    have HB := n11_
    clear n0_ n1_ n2_ n3_ n4_ n5_ n6_ n7_ n8_ n9_ n10_ n11_
    have hHeld := trivial
    refine norm_ (a' := ?_) ?_ ?_
    rotate_left
    ·simp only [putAll, Act.put, List.setIfInBounds_toArray, List.set_cons_zero, List.set_cons_succ]
     rfl
    refine one_ (i := 11) (N := none) #[true, true, true, true, true, true, true, true, true, true, true, true, false] rfl rfl (one_of HT_.out (by kernel_rfl)) (by decide) (fun K hK => ?_)
    have hs38 : w37.cell? ⟨gb653, 0, none⟩ = some (.int .i64 0) := (blk_cell BK653.out 0).trans rfl
    have hfs38 := blk_frozen BK653.out 0
    have hns38_0 := NB637_653.out
    have hns38_1 := NB646_653.out
    have hms38_0 := NB653_637.out
    have hms38_1 := NB653_646.out
    have hs39 : w37.cell? ⟨gb653, 1, none⟩ = some (.int .i64 0) := (blk_cell BK653.out 1).trans rfl
    have hfs39 := blk_frozen BK653.out 1
    have hns39_0 := NB637_653.out
    have hns39_1 := NB646_653.out
    have hms39_0 := NB653_637.out
    have hms39_1 := NB653_646.out
    refine skip_ (w1 := ?_) (by rfl) rfl ?_ ?_
    rotate_left
    ·go_simp
     rfl
    refine hK.out _ _ trivial (fun hHeld => ?_)
    clear hK K
    refine pure_ (i := 12) (N := some 12) (v := ?_) (a' := ?_) #[true, true, true, true, true, true, true, true, true, true, true, true, true] rfl rfl (any_of HT_.out (by kernel_rfl)) (fun _ _ _ h => h) (Or.inl ⟨by rfl, ?_⟩) ?_ ?_
    rotate_left
    ·intro w'
     go_simp
     with_reducible rfl
    rotate_left
    ·simp only [Act.put, List.setIfInBounds_toArray, List.set_cons_zero, List.set_cons_succ, i64_w, i32_w]
     rfl
    refine done_ (done_of HT_.out (by kernel_rfl)) ?_
    go_upto_region 6 with (fail)
    go_cut [80] (fun v80 wc => ∃ (kq : Nat) (x80_23 : Bool), v80 = .bool x80_23 ∧ Aside0 (comfitlaw04_PacketsTwice.j1 kq l0 a1 a2 x80_23 t634 t635 = some r) ∧ Aside0 (kq ≤ kj5) ∧ Aside0 (wc.heap[gb637]? = some (.cells #[.int .i64 t634, .int .i64 t635] 25 (0, 0))) ∧ Aside0 (wc.heap[gb646]? = some (.cells #[.int .i64 t643, .int .i64 t644] 25 (0, 0))) ∧ Aside0 (wc.heap[gb653]? = some (.cells #[.int .i64 t650, .int .i64 t651] 25 (0, 0))) ∧ Aside0 (Below w.heap.size w wc))
    case first =>
     have H := HC24.out
     clear HC24
     by_cases c40 : t645 = 0
     ·rw [if_pos c40] at H
      have c40b0 : (t645 == 0) = true := beq_iff_eq.mpr c40
      have c40b1 : (t645 != 0) = false := bne_eq_false_iff_eq.mpr c40
      clear c40
      (first | rw [c40b0] | (simp only [i64_w, i32_w]; rw [c40b0]) | skip)
      by_cases c41 : t652 = 0
      ·rw [if_pos c41] at H
       have c41b0 : (t652 == 0) = true := beq_iff_eq.mpr c41
       have c41b1 : (t652 != 0) = false := bne_eq_false_iff_eq.mpr c41
       clear c41
       by_cases c42 : (!(t643 == t650) || (!(t644 == t651))) = true
       ·rw [if_pos c42] at H
        have c42b0 : (!(t643 == t650) || (!(t644 == t651))) = true := c42
        clear c42
        have H' := Aside0.mk H
        clear H
        have hnb43 := NB646_637.out
        have hnc43 := NB637_646.out
        have hnb44 := NB646_653.out
        have hnc44 := NB653_646.out
        have hcz45_0 : w37.cell? ⟨gb646, 0, none⟩ = some (.int .i64 t643) := (blk_cell BK646.out 0).trans rfl
        have hcz45_1 : w37.cell? ⟨gb646, 1, none⟩ = some (.int .i64 t644) := (blk_cell BK646.out 1).trans rfl
        have hfz45_0 := blk_frozen BK646.out 0
        have hfz45_1 := blk_frozen BK646.out 1
        have hnb46 := NB653_637.out
        have hnc46 := NB637_653.out
        have hcz47_0 : w37.cell? ⟨gb653, 0, none⟩ = some (.int .i64 0) := (blk_cell BK653.out 0).trans rfl
        have hcz47_1 : w37.cell? ⟨gb653, 1, none⟩ = some (.int .i64 0) := (blk_cell BK653.out 1).trans rfl
        have hfz47_0 := blk_frozen BK653.out 0
        have hfz47_1 := blk_frozen BK653.out 1
        go_wp2
        go_meet
        case rel => exact ⟨_, (true), (by first | rfl | (simp; done) | (simp [*]; done)), H', ⟨by have := HJ5.out; first | omega | exact Nat.le_refl _⟩, ⟨by (with_reducible repeat (first | refine blk_drewN ?_ _ | refine blk_drew ?_ | refine blk_alloc ?_ _)); refine blk_far ?_ NB637_653.out _; (with_reducible repeat (first | refine blk_drewN ?_ _ | refine blk_drew ?_ | refine blk_alloc ?_ _)); refine blk_far ?_ NB637_653.out _; (with_reducible repeat (first | refine blk_drewN ?_ _ | refine blk_drew ?_ | refine blk_alloc ?_ _)); exact BK637.out⟩, ⟨by (with_reducible repeat (first | refine blk_drewN ?_ _ | refine blk_drew ?_ | refine blk_alloc ?_ _)); refine blk_far ?_ NB646_653.out _; (with_reducible repeat (first | refine blk_drewN ?_ _ | refine blk_drew ?_ | refine blk_alloc ?_ _)); refine blk_far ?_ NB646_653.out _; (with_reducible repeat (first | refine blk_drewN ?_ _ | refine blk_drew ?_ | refine blk_alloc ?_ _)); exact BK646.out⟩, ⟨by (with_reducible repeat (first | refine blk_drewN ?_ _ | refine blk_drew ?_ | refine blk_alloc ?_ _)); refine blk_put (cs := #[.int .i64 t650, .int .i64 0]) ?_ 1 _ rfl; (with_reducible repeat (first | refine blk_drewN ?_ _ | refine blk_drew ?_ | refine blk_alloc ?_ _)); refine blk_put (cs := #[.int .i64 0, .int .i64 0]) ?_ 0 _ rfl; (with_reducible repeat (first | refine blk_drewN ?_ _ | refine blk_drew ?_ | refine blk_alloc ?_ _)); exact BK653.out⟩, ⟨by repeat (first | (with_reducible first | exact HB.out | apply below_alloc | apply pw_below_drewN | apply below_drew1 | refine below_set ?_ GE637.out | refine below_set ?_ GE646.out | refine below_set ?_ GE653.out) | exact HB.out)⟩⟩
       ·rw [if_neg c42] at H
        have c42b0 : (!(t643 == t650) || (!(t644 == t651))) = false := by simpa using c42
        clear c42
        replace H := Option.bind_eq_some_iff.mp H
        obtain ⟨t654, A480, H⟩ := H
        replace H : (if t654 = true then ((comfitlaw04_right.f t634 t635 400).bind fun t655 => (if t655 = true then ((comfitref04_Less.f kj5 t634 t635 t643 t644).bind fun t656 => (comfitlaw04_PacketsTwice.j1 kj5 l0 a1 a2 t656 t634 t635)) else (comfitlaw04_PacketsTwice.j1 kj5 l0 a1 a2 true t634 t635))) else (comfitlaw04_PacketsTwice.j1 kj5 l0 a1 a2 true t634 t635)) = some r := H
        have A48 := Aside0.mk A480
        clear A480
        by_cases c49 : t654 = true
        ·subst c49
         have H1 : ((comfitlaw04_right.f t634 t635 400).bind fun t655 => (if t655 = true then ((comfitref04_Less.f kj5 t634 t635 t643 t644).bind fun t656 => (comfitlaw04_PacketsTwice.j1 kj5 l0 a1 a2 t656 t634 t635)) else (comfitlaw04_PacketsTwice.j1 kj5 l0 a1 a2 true t634 t635))) = some r := by rw [if_pos rfl] at H; exact H
         clear H
         have H := H1
         clear H1
         replace H := Option.bind_eq_some_iff.mp H
         obtain ⟨t655, A500, H⟩ := H
         replace H : (if t655 = true then ((comfitref04_Less.f kj5 t634 t635 t643 t644).bind fun t656 => (comfitlaw04_PacketsTwice.j1 kj5 l0 a1 a2 t656 t634 t635)) else (comfitlaw04_PacketsTwice.j1 kj5 l0 a1 a2 true t634 t635)) = some r := H
         have A50 := Aside0.mk A500
         clear A500
         by_cases c51 : t655 = true
         ·subst c51
          have H1 : ((comfitref04_Less.f kj5 t634 t635 t643 t644).bind fun t656 => (comfitlaw04_PacketsTwice.j1 kj5 l0 a1 a2 t656 t634 t635)) = some r := by rw [if_pos rfl] at H; exact H
          clear H
          have H := H1
          clear H1
          replace H := Option.bind_eq_some_iff.mp H
          obtain ⟨t656, A520, H⟩ := H
          replace H : (comfitlaw04_PacketsTwice.j1 kj5 l0 a1 a2 t656 t634 t635) = some r := H
          have A52 := Aside0.mk A520
          clear A520
          have H' := Aside0.mk H
          clear H
          have hnb53 := NB646_637.out
          have hnc53 := NB637_646.out
          have hnb54 := NB646_653.out
          have hnc54 := NB653_646.out
          have hcz55_0 : w37.cell? ⟨gb646, 0, none⟩ = some (.int .i64 t643) := (blk_cell BK646.out 0).trans rfl
          have hcz55_1 : w37.cell? ⟨gb646, 1, none⟩ = some (.int .i64 t644) := (blk_cell BK646.out 1).trans rfl
          have hfz55_0 := blk_frozen BK646.out 0
          have hfz55_1 := blk_frozen BK646.out 1
          have hnb56 := NB653_637.out
          have hnc56 := NB637_653.out
          have hcz57_0 : w37.cell? ⟨gb653, 0, none⟩ = some (.int .i64 0) := (blk_cell BK653.out 0).trans rfl
          have hcz57_1 : w37.cell? ⟨gb653, 1, none⟩ = some (.int .i64 0) := (blk_cell BK653.out 1).trans rfl
          have hfz57_0 := blk_frozen BK653.out 0
          have hfz57_1 := blk_frozen BK653.out 1
          go_wp2_with (first | (go_at_call 19; (with_reducible refine (comfitlaw04_right.calls t643 t644 400 true _ A48.out).mono ?_); rintro e w58 ⟨rfl, hb⟩; have n0_ := Aside0.mk (Kd.R_below (by (with_reducible repeat (first | apply Kd.R_alloc | apply Kd.R_drewN | apply Kd.R_drew)); exact (Kd.R_mono (Kd.R_far (p := ⟨gb653, 1, none⟩) (Kd.R_far (p := ⟨gb653, 0, none⟩) (Kd.R_types HO642.out BK653.out (by decide)) (fun _ hk => hk.2) (.int .i64 t650)) (fun _ hk => hk.2) (.int .i64 t651)) (fun _ h_ => h_.1))) hb); have n1_ := Aside0.mk (Kd.R_below (by (with_reducible repeat (first | apply Kd.R_alloc | apply Kd.R_drewN | apply Kd.R_drew)); exact (Kd.R_mono (Kd.R_far (p := ⟨gb653, 1, none⟩) (Kd.R_far (p := ⟨gb653, 0, none⟩) (Kd.R_types HO649.out BK653.out (by decide)) (fun _ hk => hk.2) (.int .i64 t650)) (fun _ hk => hk.2) (.int .i64 t651)) (fun _ h_ => h_.1))) hb); have n2_ := Aside0.mk (blk_below (g := gb637) (o := .cells #[.int .i64 t634, .int .i64 t635] 25 (0, 0)) (by (with_reducible repeat (first | refine blk_drewN ?_ _ | refine blk_drew ?_ | refine blk_alloc ?_ _)); refine blk_far ?_ NB637_653.out _; (with_reducible repeat (first | refine blk_drewN ?_ _ | refine blk_drew ?_ | refine blk_alloc ?_ _)); refine blk_far ?_ NB637_653.out _; (with_reducible repeat (first | refine blk_drewN ?_ _ | refine blk_drew ?_ | refine blk_alloc ?_ _)); exact BK637.out) hb); have n3_ := Aside0.mk (blk_below (g := gb646) (o := .cells #[.int .i64 t643, .int .i64 t644] 25 (0, 0)) (by (with_reducible repeat (first | refine blk_drewN ?_ _ | refine blk_drew ?_ | refine blk_alloc ?_ _)); refine blk_far ?_ NB646_653.out _; (with_reducible repeat (first | refine blk_drewN ?_ _ | refine blk_drew ?_ | refine blk_alloc ?_ _)); refine blk_far ?_ NB646_653.out _; (with_reducible repeat (first | refine blk_drewN ?_ _ | refine blk_drew ?_ | refine blk_alloc ?_ _)); exact BK646.out) hb); have n4_ := Aside0.mk (blk_below (g := gb653) (o := .cells #[.int .i64 t650, .int .i64 t651] 25 (0, 0)) (by (with_reducible repeat (first | refine blk_drewN ?_ _ | refine blk_drew ?_ | refine blk_alloc ?_ _)); refine blk_put (cs := #[.int .i64 t650, .int .i64 0]) ?_ 1 _ rfl; (with_reducible repeat (first | refine blk_drewN ?_ _ | refine blk_drew ?_ | refine blk_alloc ?_ _)); refine blk_put (cs := #[.int .i64 0, .int .i64 0]) ?_ 0 _ rfl; (with_reducible repeat (first | refine blk_drewN ?_ _ | refine blk_drew ?_ | refine blk_alloc ?_ _)); exact BK653.out) hb); have n5_ := Aside0.mk (below_step (hb_ HB.out) hb); clear HO642; clear HO649; clear BK637; clear BK646; clear BK653; clear HB; have HO642 := n0_; have HO649 := n1_; have BK637 := n2_; have BK646 := n3_; have BK653 := n4_; have HB := n5_; clear n0_ n1_ n2_ n3_ n4_ n5_; (try clear hb); (try clear hb2); (try clear hk); (try clear hi); have hcz59_0 : w58.cell? ⟨gb637, 0, none⟩ = some (.int .i64 t634) := (blk_cell BK637.out 0).trans rfl; have hcz59_1 : w58.cell? ⟨gb637, 1, none⟩ = some (.int .i64 t635) := (blk_cell BK637.out 1).trans rfl; have hfz59_0 := blk_frozen BK637.out 0; have hfz59_1 := blk_frozen BK637.out 1) | (go_at_call 19; (with_reducible refine (comfitlaw04_right.calls t634 t635 400 true _ A50.out).mono ?_); rintro e w60 ⟨rfl, hb⟩; have n0_ := Aside0.mk (Kd.R_below (kr_ (HO642.out)) hb); have n1_ := Aside0.mk (Kd.R_below (kr_ (HO649.out)) hb); have n2_ := Aside0.mk (bkb_ BK637.out hb); have n3_ := Aside0.mk (bkb_ BK646.out hb); have n4_ := Aside0.mk (bkb_ BK653.out hb); have n5_ := Aside0.mk (below_step (hb_ HB.out) hb); clear HO642; clear HO649; clear BK637; clear BK646; clear BK653; clear HB; have HO642 := n0_; have HO649 := n1_; have BK637 := n2_; have BK646 := n3_; have BK653 := n4_; have HB := n5_; clear n0_ n1_ n2_ n3_ n4_ n5_; (try clear hb); (try clear hb2); (try clear hk); (try clear hi); have hcz61_0 : w60.cell? ⟨gb637, 0, none⟩ = some (.int .i64 t634) := (blk_cell BK637.out 0).trans rfl; have hcz61_1 : w60.cell? ⟨gb637, 1, none⟩ = some (.int .i64 t635) := (blk_cell BK637.out 1).trans rfl; have hfz61_0 := blk_frozen BK637.out 0; have hfz61_1 := blk_frozen BK637.out 1; have hcz62_0 : w60.cell? ⟨gb646, 0, none⟩ = some (.int .i64 t643) := (blk_cell BK646.out 0).trans rfl; have hcz62_1 : w60.cell? ⟨gb646, 1, none⟩ = some (.int .i64 t644) := (blk_cell BK646.out 1).trans rfl; have hfz62_0 := blk_frozen BK646.out 0; have hfz62_1 := blk_frozen BK646.out 1) | (go_at_call 23; (with_reducible refine (comfitref04_Less.calls kj5 t634 t635 t643 t644 t656 _ A52.out).mono ?_); rintro e w63 ⟨rfl, hb⟩; have n0_ := Aside0.mk (Kd.R_below (kr_ (HO642.out)) hb); have n1_ := Aside0.mk (Kd.R_below (kr_ (HO649.out)) hb); have n2_ := Aside0.mk (bkb_ BK637.out hb); have n3_ := Aside0.mk (bkb_ BK646.out hb); have n4_ := Aside0.mk (bkb_ BK653.out hb); have n5_ := Aside0.mk (below_step (hb_ HB.out) hb); clear HO642; clear HO649; clear BK637; clear BK646; clear BK653; clear HB; have HO642 := n0_; have HO649 := n1_; have BK637 := n2_; have BK646 := n3_; have BK653 := n4_; have HB := n5_; clear n0_ n1_ n2_ n3_ n4_ n5_; (try clear hb); (try clear hb2); (try clear hk); (try clear hi)))
          go_meet
          case rel => exact ⟨_, (t656), (by first | rfl | (simp; done) | (simp [*]; done)), H', ⟨by have := HJ5.out; first | omega | exact Nat.le_refl _⟩, ⟨by (with_reducible repeat (first | refine blk_drewN ?_ _ | refine blk_drew ?_ | refine blk_alloc ?_ _)); exact BK637.out⟩, ⟨by (with_reducible repeat (first | refine blk_drewN ?_ _ | refine blk_drew ?_ | refine blk_alloc ?_ _)); exact BK646.out⟩, ⟨by (with_reducible repeat (first | refine blk_drewN ?_ _ | refine blk_drew ?_ | refine blk_alloc ?_ _)); exact BK653.out⟩, ⟨by repeat (first | (with_reducible first | exact HB.out | apply below_alloc | apply pw_below_drewN | apply below_drew1 | refine below_set ?_ GE637.out | refine below_set ?_ GE646.out | refine below_set ?_ GE653.out) | exact HB.out)⟩⟩
         ·replace c51 := Bool.eq_false_iff.mpr c51
          subst c51
          have H1 : (comfitlaw04_PacketsTwice.j1 kj5 l0 a1 a2 true t634 t635) = some r := by rw [if_neg (show ¬ (false = true) by decide)] at H; exact H
          clear H
          have H := H1
          clear H1
          have H' := Aside0.mk H
          clear H
          have hnb64 := NB646_637.out
          have hnc64 := NB637_646.out
          have hnb65 := NB646_653.out
          have hnc65 := NB653_646.out
          have hcz66_0 : w37.cell? ⟨gb646, 0, none⟩ = some (.int .i64 t643) := (blk_cell BK646.out 0).trans rfl
          have hcz66_1 : w37.cell? ⟨gb646, 1, none⟩ = some (.int .i64 t644) := (blk_cell BK646.out 1).trans rfl
          have hfz66_0 := blk_frozen BK646.out 0
          have hfz66_1 := blk_frozen BK646.out 1
          have hnb67 := NB653_637.out
          have hnc67 := NB637_653.out
          have hcz68_0 : w37.cell? ⟨gb653, 0, none⟩ = some (.int .i64 0) := (blk_cell BK653.out 0).trans rfl
          have hcz68_1 : w37.cell? ⟨gb653, 1, none⟩ = some (.int .i64 0) := (blk_cell BK653.out 1).trans rfl
          have hfz68_0 := blk_frozen BK653.out 0
          have hfz68_1 := blk_frozen BK653.out 1
          go_wp2_with (first | (go_at_call 19; (with_reducible refine (comfitlaw04_right.calls t643 t644 400 true _ A48.out).mono ?_); rintro e w69 ⟨rfl, hb⟩; have n0_ := Aside0.mk (Kd.R_below (by (with_reducible repeat (first | apply Kd.R_alloc | apply Kd.R_drewN | apply Kd.R_drew)); exact (Kd.R_mono (Kd.R_far (p := ⟨gb653, 1, none⟩) (Kd.R_far (p := ⟨gb653, 0, none⟩) (Kd.R_types HO642.out BK653.out (by decide)) (fun _ hk => hk.2) (.int .i64 t650)) (fun _ hk => hk.2) (.int .i64 t651)) (fun _ h_ => h_.1))) hb); have n1_ := Aside0.mk (Kd.R_below (by (with_reducible repeat (first | apply Kd.R_alloc | apply Kd.R_drewN | apply Kd.R_drew)); exact (Kd.R_mono (Kd.R_far (p := ⟨gb653, 1, none⟩) (Kd.R_far (p := ⟨gb653, 0, none⟩) (Kd.R_types HO649.out BK653.out (by decide)) (fun _ hk => hk.2) (.int .i64 t650)) (fun _ hk => hk.2) (.int .i64 t651)) (fun _ h_ => h_.1))) hb); have n2_ := Aside0.mk (blk_below (g := gb637) (o := .cells #[.int .i64 t634, .int .i64 t635] 25 (0, 0)) (by (with_reducible repeat (first | refine blk_drewN ?_ _ | refine blk_drew ?_ | refine blk_alloc ?_ _)); refine blk_far ?_ NB637_653.out _; (with_reducible repeat (first | refine blk_drewN ?_ _ | refine blk_drew ?_ | refine blk_alloc ?_ _)); refine blk_far ?_ NB637_653.out _; (with_reducible repeat (first | refine blk_drewN ?_ _ | refine blk_drew ?_ | refine blk_alloc ?_ _)); exact BK637.out) hb); have n3_ := Aside0.mk (blk_below (g := gb646) (o := .cells #[.int .i64 t643, .int .i64 t644] 25 (0, 0)) (by (with_reducible repeat (first | refine blk_drewN ?_ _ | refine blk_drew ?_ | refine blk_alloc ?_ _)); refine blk_far ?_ NB646_653.out _; (with_reducible repeat (first | refine blk_drewN ?_ _ | refine blk_drew ?_ | refine blk_alloc ?_ _)); refine blk_far ?_ NB646_653.out _; (with_reducible repeat (first | refine blk_drewN ?_ _ | refine blk_drew ?_ | refine blk_alloc ?_ _)); exact BK646.out) hb); have n4_ := Aside0.mk (blk_below (g := gb653) (o := .cells #[.int .i64 t650, .int .i64 t651] 25 (0, 0)) (by (with_reducible repeat (first | refine blk_drewN ?_ _ | refine blk_drew ?_ | refine blk_alloc ?_ _)); refine blk_put (cs := #[.int .i64 t650, .int .i64 0]) ?_ 1 _ rfl; (with_reducible repeat (first | refine blk_drewN ?_ _ | refine blk_drew ?_ | refine blk_alloc ?_ _)); refine blk_put (cs := #[.int .i64 0, .int .i64 0]) ?_ 0 _ rfl; (with_reducible repeat (first | refine blk_drewN ?_ _ | refine blk_drew ?_ | refine blk_alloc ?_ _)); exact BK653.out) hb); have n5_ := Aside0.mk (below_step (hb_ HB.out) hb); clear HO642; clear HO649; clear BK637; clear BK646; clear BK653; clear HB; have HO642 := n0_; have HO649 := n1_; have BK637 := n2_; have BK646 := n3_; have BK653 := n4_; have HB := n5_; clear n0_ n1_ n2_ n3_ n4_ n5_; (try clear hb); (try clear hb2); (try clear hk); (try clear hi); have hcz70_0 : w69.cell? ⟨gb637, 0, none⟩ = some (.int .i64 t634) := (blk_cell BK637.out 0).trans rfl; have hcz70_1 : w69.cell? ⟨gb637, 1, none⟩ = some (.int .i64 t635) := (blk_cell BK637.out 1).trans rfl; have hfz70_0 := blk_frozen BK637.out 0; have hfz70_1 := blk_frozen BK637.out 1) | (go_at_call 19; (with_reducible refine (comfitlaw04_right.calls t634 t635 400 false _ A50.out).mono ?_); rintro e w71 ⟨rfl, hb⟩; have n0_ := Aside0.mk (Kd.R_below (kr_ (HO642.out)) hb); have n1_ := Aside0.mk (Kd.R_below (kr_ (HO649.out)) hb); have n2_ := Aside0.mk (bkb_ BK637.out hb); have n3_ := Aside0.mk (bkb_ BK646.out hb); have n4_ := Aside0.mk (bkb_ BK653.out hb); have n5_ := Aside0.mk (below_step (hb_ HB.out) hb); clear HO642; clear HO649; clear BK637; clear BK646; clear BK653; clear HB; have HO642 := n0_; have HO649 := n1_; have BK637 := n2_; have BK646 := n3_; have BK653 := n4_; have HB := n5_; clear n0_ n1_ n2_ n3_ n4_ n5_; (try clear hb); (try clear hb2); (try clear hk); (try clear hi)))
          go_meet
          case rel => exact ⟨_, (true), (by first | rfl | (simp; done) | (simp [*]; done)), H', ⟨by have := HJ5.out; first | omega | exact Nat.le_refl _⟩, ⟨by (with_reducible repeat (first | refine blk_drewN ?_ _ | refine blk_drew ?_ | refine blk_alloc ?_ _)); exact BK637.out⟩, ⟨by (with_reducible repeat (first | refine blk_drewN ?_ _ | refine blk_drew ?_ | refine blk_alloc ?_ _)); exact BK646.out⟩, ⟨by (with_reducible repeat (first | refine blk_drewN ?_ _ | refine blk_drew ?_ | refine blk_alloc ?_ _)); exact BK653.out⟩, ⟨by repeat (first | (with_reducible first | exact HB.out | apply below_alloc | apply pw_below_drewN | apply below_drew1 | refine below_set ?_ GE637.out | refine below_set ?_ GE646.out | refine below_set ?_ GE653.out) | exact HB.out)⟩⟩
        ·replace c49 := Bool.eq_false_iff.mpr c49
         subst c49
         have H1 : (comfitlaw04_PacketsTwice.j1 kj5 l0 a1 a2 true t634 t635) = some r := by rw [if_neg (show ¬ (false = true) by decide)] at H; exact H
         clear H
         have H := H1
         clear H1
         have H' := Aside0.mk H
         clear H
         have hnb72 := NB646_637.out
         have hnc72 := NB637_646.out
         have hnb73 := NB646_653.out
         have hnc73 := NB653_646.out
         have hcz74_0 : w37.cell? ⟨gb646, 0, none⟩ = some (.int .i64 t643) := (blk_cell BK646.out 0).trans rfl
         have hcz74_1 : w37.cell? ⟨gb646, 1, none⟩ = some (.int .i64 t644) := (blk_cell BK646.out 1).trans rfl
         have hfz74_0 := blk_frozen BK646.out 0
         have hfz74_1 := blk_frozen BK646.out 1
         have hnb75 := NB653_637.out
         have hnc75 := NB637_653.out
         have hcz76_0 : w37.cell? ⟨gb653, 0, none⟩ = some (.int .i64 0) := (blk_cell BK653.out 0).trans rfl
         have hcz76_1 : w37.cell? ⟨gb653, 1, none⟩ = some (.int .i64 0) := (blk_cell BK653.out 1).trans rfl
         have hfz76_0 := blk_frozen BK653.out 0
         have hfz76_1 := blk_frozen BK653.out 1
         go_wp2_with (first | (go_at_call 19; (with_reducible refine (comfitlaw04_right.calls t643 t644 400 false _ A48.out).mono ?_); rintro e w77 ⟨rfl, hb⟩; have n0_ := Aside0.mk (Kd.R_below (by (with_reducible repeat (first | apply Kd.R_alloc | apply Kd.R_drewN | apply Kd.R_drew)); exact (Kd.R_mono (Kd.R_far (p := ⟨gb653, 1, none⟩) (Kd.R_far (p := ⟨gb653, 0, none⟩) (Kd.R_types HO642.out BK653.out (by decide)) (fun _ hk => hk.2) (.int .i64 t650)) (fun _ hk => hk.2) (.int .i64 t651)) (fun _ h_ => h_.1))) hb); have n1_ := Aside0.mk (Kd.R_below (by (with_reducible repeat (first | apply Kd.R_alloc | apply Kd.R_drewN | apply Kd.R_drew)); exact (Kd.R_mono (Kd.R_far (p := ⟨gb653, 1, none⟩) (Kd.R_far (p := ⟨gb653, 0, none⟩) (Kd.R_types HO649.out BK653.out (by decide)) (fun _ hk => hk.2) (.int .i64 t650)) (fun _ hk => hk.2) (.int .i64 t651)) (fun _ h_ => h_.1))) hb); have n2_ := Aside0.mk (blk_below (g := gb637) (o := .cells #[.int .i64 t634, .int .i64 t635] 25 (0, 0)) (by (with_reducible repeat (first | refine blk_drewN ?_ _ | refine blk_drew ?_ | refine blk_alloc ?_ _)); refine blk_far ?_ NB637_653.out _; (with_reducible repeat (first | refine blk_drewN ?_ _ | refine blk_drew ?_ | refine blk_alloc ?_ _)); refine blk_far ?_ NB637_653.out _; (with_reducible repeat (first | refine blk_drewN ?_ _ | refine blk_drew ?_ | refine blk_alloc ?_ _)); exact BK637.out) hb); have n3_ := Aside0.mk (blk_below (g := gb646) (o := .cells #[.int .i64 t643, .int .i64 t644] 25 (0, 0)) (by (with_reducible repeat (first | refine blk_drewN ?_ _ | refine blk_drew ?_ | refine blk_alloc ?_ _)); refine blk_far ?_ NB646_653.out _; (with_reducible repeat (first | refine blk_drewN ?_ _ | refine blk_drew ?_ | refine blk_alloc ?_ _)); refine blk_far ?_ NB646_653.out _; (with_reducible repeat (first | refine blk_drewN ?_ _ | refine blk_drew ?_ | refine blk_alloc ?_ _)); exact BK646.out) hb); have n4_ := Aside0.mk (blk_below (g := gb653) (o := .cells #[.int .i64 t650, .int .i64 t651] 25 (0, 0)) (by (with_reducible repeat (first | refine blk_drewN ?_ _ | refine blk_drew ?_ | refine blk_alloc ?_ _)); refine blk_put (cs := #[.int .i64 t650, .int .i64 0]) ?_ 1 _ rfl; (with_reducible repeat (first | refine blk_drewN ?_ _ | refine blk_drew ?_ | refine blk_alloc ?_ _)); refine blk_put (cs := #[.int .i64 0, .int .i64 0]) ?_ 0 _ rfl; (with_reducible repeat (first | refine blk_drewN ?_ _ | refine blk_drew ?_ | refine blk_alloc ?_ _)); exact BK653.out) hb); have n5_ := Aside0.mk (below_step (hb_ HB.out) hb); clear HO642; clear HO649; clear BK637; clear BK646; clear BK653; clear HB; have HO642 := n0_; have HO649 := n1_; have BK637 := n2_; have BK646 := n3_; have BK653 := n4_; have HB := n5_; clear n0_ n1_ n2_ n3_ n4_ n5_; (try clear hb); (try clear hb2); (try clear hk); (try clear hi)))
         go_meet
         case rel => exact ⟨_, (true), (by first | rfl | (simp; done) | (simp [*]; done)), H', ⟨by have := HJ5.out; first | omega | exact Nat.le_refl _⟩, ⟨by (with_reducible repeat (first | refine blk_drewN ?_ _ | refine blk_drew ?_ | refine blk_alloc ?_ _)); exact BK637.out⟩, ⟨by (with_reducible repeat (first | refine blk_drewN ?_ _ | refine blk_drew ?_ | refine blk_alloc ?_ _)); exact BK646.out⟩, ⟨by (with_reducible repeat (first | refine blk_drewN ?_ _ | refine blk_drew ?_ | refine blk_alloc ?_ _)); exact BK653.out⟩, ⟨by repeat (first | (with_reducible first | exact HB.out | apply below_alloc | apply pw_below_drewN | apply below_drew1 | refine below_set ?_ GE637.out | refine below_set ?_ GE646.out | refine below_set ?_ GE653.out) | exact HB.out)⟩⟩
      ·rw [if_neg c41] at H
       have c41b0 : (t652 == 0) = false := beq_eq_false_iff_ne.mpr c41
       have c41b1 : (t652 != 0) = true := bne_iff_ne.mpr c41
       have H' := Aside0.mk H
       clear H
       go_wp2
       go_meet
       case rel => exact ⟨_, (true), (by first | rfl | (simp; done) | (simp [*]; done)), H', ⟨by have := HJ5.out; first | omega | exact Nat.le_refl _⟩, ⟨by (with_reducible repeat (first | refine blk_drewN ?_ _ | refine blk_drew ?_ | refine blk_alloc ?_ _)); refine blk_far ?_ NB637_653.out _; (with_reducible repeat (first | refine blk_drewN ?_ _ | refine blk_drew ?_ | refine blk_alloc ?_ _)); refine blk_far ?_ NB637_653.out _; (with_reducible repeat (first | refine blk_drewN ?_ _ | refine blk_drew ?_ | refine blk_alloc ?_ _)); exact BK637.out⟩, ⟨by (with_reducible repeat (first | refine blk_drewN ?_ _ | refine blk_drew ?_ | refine blk_alloc ?_ _)); refine blk_far ?_ NB646_653.out _; (with_reducible repeat (first | refine blk_drewN ?_ _ | refine blk_drew ?_ | refine blk_alloc ?_ _)); refine blk_far ?_ NB646_653.out _; (with_reducible repeat (first | refine blk_drewN ?_ _ | refine blk_drew ?_ | refine blk_alloc ?_ _)); exact BK646.out⟩, ⟨by (with_reducible repeat (first | refine blk_drewN ?_ _ | refine blk_drew ?_ | refine blk_alloc ?_ _)); refine blk_put (cs := #[.int .i64 t650, .int .i64 0]) ?_ 1 _ rfl; (with_reducible repeat (first | refine blk_drewN ?_ _ | refine blk_drew ?_ | refine blk_alloc ?_ _)); refine blk_put (cs := #[.int .i64 0, .int .i64 0]) ?_ 0 _ rfl; (with_reducible repeat (first | refine blk_drewN ?_ _ | refine blk_drew ?_ | refine blk_alloc ?_ _)); exact BK653.out⟩, ⟨by repeat (first | (with_reducible first | exact HB.out | apply below_alloc | apply pw_below_drewN | apply below_drew1 | refine below_set ?_ GE637.out | refine below_set ?_ GE646.out | refine below_set ?_ GE653.out) | exact HB.out)⟩⟩
     ·rw [if_neg c40] at H
      have c40b0 : (t645 == 0) = false := beq_eq_false_iff_ne.mpr c40
      have c40b1 : (t645 != 0) = true := bne_iff_ne.mpr c40
      (first | rw [c40b0] | (simp only [i64_w, i32_w]; rw [c40b0]) | skip)
      have H' := Aside0.mk H
      clear H
      go_wp2
      go_meet
      case rel => exact ⟨_, (true), (by first | rfl | (simp; done) | (simp [*]; done)), H', ⟨by have := HJ5.out; first | omega | exact Nat.le_refl _⟩, ⟨by (with_reducible repeat (first | refine blk_drewN ?_ _ | refine blk_drew ?_ | refine blk_alloc ?_ _)); refine blk_far ?_ NB637_653.out _; (with_reducible repeat (first | refine blk_drewN ?_ _ | refine blk_drew ?_ | refine blk_alloc ?_ _)); refine blk_far ?_ NB637_653.out _; (with_reducible repeat (first | refine blk_drewN ?_ _ | refine blk_drew ?_ | refine blk_alloc ?_ _)); exact BK637.out⟩, ⟨by (with_reducible repeat (first | refine blk_drewN ?_ _ | refine blk_drew ?_ | refine blk_alloc ?_ _)); refine blk_far ?_ NB646_653.out _; (with_reducible repeat (first | refine blk_drewN ?_ _ | refine blk_drew ?_ | refine blk_alloc ?_ _)); refine blk_far ?_ NB646_653.out _; (with_reducible repeat (first | refine blk_drewN ?_ _ | refine blk_drew ?_ | refine blk_alloc ?_ _)); exact BK646.out⟩, ⟨by (with_reducible repeat (first | refine blk_drewN ?_ _ | refine blk_drew ?_ | refine blk_alloc ?_ _)); refine blk_put (cs := #[.int .i64 t650, .int .i64 0]) ?_ 1 _ rfl; (with_reducible repeat (first | refine blk_drewN ?_ _ | refine blk_drew ?_ | refine blk_alloc ?_ _)); refine blk_put (cs := #[.int .i64 0, .int .i64 0]) ?_ 0 _ rfl; (with_reducible repeat (first | refine blk_drewN ?_ _ | refine blk_drew ?_ | refine blk_alloc ?_ _)); exact BK653.out⟩, ⟨by repeat (first | (with_reducible first | exact HB.out | apply below_alloc | apply pw_below_drewN | apply below_drew1 | refine below_set ?_ GE637.out | refine below_set ?_ GE646.out | refine below_set ?_ GE653.out) | exact HB.out)⟩⟩
    case rest =>
     clear HC24
     try clear c1
     try clear c2
     try clear p2
     try clear c4
     try clear c5
     try clear c6
     try clear p6
     try clear c7
     try clear c18
     try clear c22
     try clear c40
     try clear c40b0
     try clear c40b1
     try clear c41
     try clear c41b0
     try clear c41b1
     try clear c42
     try clear c42b0
     try clear c43
     try clear c44
     try clear c46
     try clear c49
     try clear c51
     try clear c53
     try clear c54
     try clear c56
     try clear c64
     try clear p64
     try clear c65
     try clear c67
     try clear c72
     try clear c73
     try clear c75
     try clear hcz45_0
     try clear hcz45_1
     try clear hcz47_0
     try clear hcz47_1
     try clear hcz55_0
     try clear hcz55_1
     try clear hcz57_0
     try clear hcz57_1
     try clear hcz59_0
     try clear hcz59_1
     try clear hcz61_0
     try clear hcz61_1
     try clear hcz62_0
     try clear hcz62_1
     try clear hcz66_0
     try clear hcz66_1
     try clear hcz68_0
     try clear hcz68_1
     try clear hcz70_0
     try clear hcz70_1
     try clear hcz74_0
     try clear hcz74_1
     try clear hcz76_0
     try clear hcz76_1
     try clear hfz45_0
     try clear hfz45_1
     try clear hfz47_0
     try clear hfz47_1
     try clear hfz55_0
     try clear hfz55_1
     try clear hfz57_0
     try clear hfz57_1
     try clear hfz59_0
     try clear hfz59_1
     try clear hfz61_0
     try clear hfz61_1
     try clear hfz62_0
     try clear hfz62_1
     try clear hfz66_0
     try clear hfz66_1
     try clear hfz68_0
     try clear hfz68_1
     try clear hfz70_0
     try clear hfz70_1
     try clear hfz74_0
     try clear hfz74_1
     try clear hfz76_0
     try clear hfz76_1
     obtain ⟨kq, x80_23, rfl, HA, HJ23, BK637, BK646, BK653, HB⟩ := hcut
     cases kq with
     | zero => exact absurd HA.out (by simp [comfitlaw04_PacketsTwice.j1])
     | succ kj23 =>
      have H := HA.out
      clear HA
      simp only [comfitlaw04_PacketsTwice.j1] at H
      by_cases c78 : x80_23 = true
      ·subst c78
       have H1 : (none) = some r := by rw [if_pos rfl] at H; exact H
       clear H
       have H := H1
       clear H1
       exact absurd H (by simp)
      ·replace c78 := Bool.eq_false_iff.mpr c78
       subst c78
       have H1 : (if (IntKind.u64.wrap ((l0.length : Int))) = 0 then (none) else ((comfitlaw04_list.f l0).bind fun t657 => (if 0 ≤ (wrap64 (Int.tmod (IntKind.u64.wrap (a2)) (IntKind.u64.wrap ((l0.length : Int))))) then ((packets_Pairs.f kj23 t657 (Go.bits .or .i64 a1 (shl .i64 1 (wrap64 (Int.tmod (IntKind.u64.wrap (a2)) (IntKind.u64.wrap ((l0.length : Int)))))))).bind fun bt660 => (if bt660.2.2 = 0 then ((comfitlaw04_right.f bt660.1 bt660.2.1 400).bind fun t664 => (if t664 = true then (if (Go.bits .and .i64 (shr .i64 a1 (wrap64 (Int.tmod (IntKind.u64.wrap (a2)) (IntKind.u64.wrap ((l0.length : Int)))))) 1) = 1 then (if (bt660.1 == t634 && (bt660.2.1 == t635)) = true then ((comfitlaw04_awake.f kj23).bind fun t665 => (some t665)) else (if (Go.bits .and .i64 (shr .i64 a1 (wrap64 (Int.tmod (IntKind.u64.wrap (a2)) (IntKind.u64.wrap ((l0.length : Int)))))) 1) = 0 then ((comfitref04_Less.f kj23 t634 t635 bt660.1 bt660.2.1).bind fun t666 => (if t666 = true then ((comfitlaw04_awake.f kj23).bind fun t667 => (some t667)) else (none))) else (none))) else (if (Go.bits .and .i64 (shr .i64 a1 (wrap64 (Int.tmod (IntKind.u64.wrap (a2)) (IntKind.u64.wrap ((l0.length : Int)))))) 1) = 0 then ((comfitref04_Less.f kj23 t634 t635 bt660.1 bt660.2.1).bind fun t668 => (if t668 = true then ((comfitlaw04_awake.f kj23).bind fun t669 => (some t669)) else (none))) else (none))) else (none))) else (none))) else (none)))) = some r := by rw [if_neg (show ¬ (false = true) by decide)] at H; exact H
       clear H
       have H := H1
       clear H1
       by_cases c79 : (IntKind.u64.wrap ((l0.length : Int))) = 0
       ·rw [if_pos c79] at H
        exact absurd H (by simp)
       ·rw [if_neg c79] at H
        have c79b0 : ((IntKind.u64.wrap ((l0.length : Int))) == 0) = false := beq_eq_false_iff_ne.mpr c79
        have c79b1 : ((IntKind.u64.wrap ((l0.length : Int))) != 0) = true := bne_iff_ne.mpr c79
        replace H := Option.bind_eq_some_iff.mp H
        obtain ⟨t657, A800, H⟩ := H
        replace H : (if 0 ≤ (wrap64 (Int.tmod (IntKind.u64.wrap (a2)) (IntKind.u64.wrap ((l0.length : Int))))) then ((packets_Pairs.f kj23 t657 (Go.bits .or .i64 a1 (shl .i64 1 (wrap64 (Int.tmod (IntKind.u64.wrap (a2)) (IntKind.u64.wrap ((l0.length : Int)))))))).bind fun bt660 => (if bt660.2.2 = 0 then ((comfitlaw04_right.f bt660.1 bt660.2.1 400).bind fun t664 => (if t664 = true then (if (Go.bits .and .i64 (shr .i64 a1 (wrap64 (Int.tmod (IntKind.u64.wrap (a2)) (IntKind.u64.wrap ((l0.length : Int)))))) 1) = 1 then (if (bt660.1 == t634 && (bt660.2.1 == t635)) = true then ((comfitlaw04_awake.f kj23).bind fun t665 => (some t665)) else (if (Go.bits .and .i64 (shr .i64 a1 (wrap64 (Int.tmod (IntKind.u64.wrap (a2)) (IntKind.u64.wrap ((l0.length : Int)))))) 1) = 0 then ((comfitref04_Less.f kj23 t634 t635 bt660.1 bt660.2.1).bind fun t666 => (if t666 = true then ((comfitlaw04_awake.f kj23).bind fun t667 => (some t667)) else (none))) else (none))) else (if (Go.bits .and .i64 (shr .i64 a1 (wrap64 (Int.tmod (IntKind.u64.wrap (a2)) (IntKind.u64.wrap ((l0.length : Int)))))) 1) = 0 then ((comfitref04_Less.f kj23 t634 t635 bt660.1 bt660.2.1).bind fun t668 => (if t668 = true then ((comfitlaw04_awake.f kj23).bind fun t669 => (some t669)) else (none))) else (none))) else (none))) else (none))) else (none)) = some r := H
        have A80 := Aside0.mk A800
        clear A800
        obtain ⟨ji81, hji81⟩ : ∃ j_ : Int, (wrap64 (Int.tmod (IntKind.u64.wrap (a2)) (IntKind.u64.wrap ((l0.length : Int))))) = j_ := ⟨_, rfl⟩
        replace H : (if 0 ≤ (ji81) then ((packets_Pairs.f kj23 t657 (Go.bits .or .i64 a1 (shl .i64 1 (ji81)))).bind fun bt660 => (if bt660.2.2 = 0 then ((comfitlaw04_right.f bt660.1 bt660.2.1 400).bind fun t664 => (if t664 = true then (if (Go.bits .and .i64 (shr .i64 a1 (ji81)) 1) = 1 then (if (bt660.1 == t634 && (bt660.2.1 == t635)) = true then ((comfitlaw04_awake.f kj23).bind fun t665 => (some t665)) else (if (Go.bits .and .i64 (shr .i64 a1 (ji81)) 1) = 0 then ((comfitref04_Less.f kj23 t634 t635 bt660.1 bt660.2.1).bind fun t666 => (if t666 = true then ((comfitlaw04_awake.f kj23).bind fun t667 => (some t667)) else (none))) else (none))) else (if (Go.bits .and .i64 (shr .i64 a1 (ji81)) 1) = 0 then ((comfitref04_Less.f kj23 t634 t635 bt660.1 bt660.2.1).bind fun t668 => (if t668 = true then ((comfitlaw04_awake.f kj23).bind fun t669 => (some t669)) else (none))) else (none))) else (none))) else (none))) else (none)) = some r := by first | (rw [hji81] at H; exact H) | (simp only [hji81] at H ⊢; exact H)
        (try rw [hji81] at A80)
        have hji81w : (IntKind.i64.wrap (Int.tmod (IntKind.u64.wrap (a2)) (IntKind.u64.wrap ((l0.length : Int))))) = ji81 := (i64_w _).trans hji81
        by_cases c82 : 0 ≤ (ji81)
        ·rw [if_pos c82] at H
         have c82b0 := eq_true c82
         have c82b1 : decide (0 ≤ (ji81)) = true := decide_eq_true c82
         clear c82
         obtain ⟨ji83, hji83⟩ : ∃ j_ : Int, (shl .i64 1 (ji81)) = j_ := ⟨_, rfl⟩
         replace H : ((packets_Pairs.f kj23 t657 (Go.bits .or .i64 a1 (ji83))).bind fun bt660 => (if bt660.2.2 = 0 then ((comfitlaw04_right.f bt660.1 bt660.2.1 400).bind fun t664 => (if t664 = true then (if (Go.bits .and .i64 (shr .i64 a1 (ji81)) 1) = 1 then (if (bt660.1 == t634 && (bt660.2.1 == t635)) = true then ((comfitlaw04_awake.f kj23).bind fun t665 => (some t665)) else (if (Go.bits .and .i64 (shr .i64 a1 (ji81)) 1) = 0 then ((comfitref04_Less.f kj23 t634 t635 bt660.1 bt660.2.1).bind fun t666 => (if t666 = true then ((comfitlaw04_awake.f kj23).bind fun t667 => (some t667)) else (none))) else (none))) else (if (Go.bits .and .i64 (shr .i64 a1 (ji81)) 1) = 0 then ((comfitref04_Less.f kj23 t634 t635 bt660.1 bt660.2.1).bind fun t668 => (if t668 = true then ((comfitlaw04_awake.f kj23).bind fun t669 => (some t669)) else (none))) else (none))) else (none))) else (none))) = some r := by first | (rw [hji83] at H; exact H) | (simp only [hji83] at H ⊢; exact H)
         (try rw [hji83] at A80)
         have hji83_ : (IntKind.i64.wrap (1 * 2 ^ min (ji81).toNat 64)) = ji83 := hji83
         have hji83z : (ji81) ≤ 64 → (IntKind.i64.wrap (1 * 2 ^ (ji81).toNat)) = ji83 := shl_small hji83
         have hji83u : (IntKind.i64.wrap (2 ^ min (ji81).toNat 64)) = ji83 := by have h_ := hji83_; rw [Int.one_mul] at h_; exact h_
         have hji83v : (ji81) ≤ 64 → (IntKind.i64.wrap (2 ^ (ji81).toNat)) = ji83 := fun hle_ => by have h_ := hji83z hle_; rw [Int.one_mul] at h_; exact h_
         have hji83y : (wrap64 (1 * 2 ^ min (ji81).toNat 64)) = ji83 := (i64_w _).symm.trans hji83_
         have hji83x : (ji81) ≤ 64 → (wrap64 (1 * 2 ^ (ji81).toNat)) = ji83 := fun h_ => (i64_w _).symm.trans (hji83z h_)
         replace H := Option.bind_eq_some_iff.mp H
         obtain ⟨⟨t660, t661, t662⟩, A840, H⟩ := H
         replace H : (if t662 = 0 then ((comfitlaw04_right.f t660 t661 400).bind fun t664 => (if t664 = true then (if (Go.bits .and .i64 (shr .i64 a1 (ji81)) 1) = 1 then (if (t660 == t634 && (t661 == t635)) = true then ((comfitlaw04_awake.f kj23).bind fun t665 => (some t665)) else (if (Go.bits .and .i64 (shr .i64 a1 (ji81)) 1) = 0 then ((comfitref04_Less.f kj23 t634 t635 t660 t661).bind fun t666 => (if t666 = true then ((comfitlaw04_awake.f kj23).bind fun t667 => (some t667)) else (none))) else (none))) else (if (Go.bits .and .i64 (shr .i64 a1 (ji81)) 1) = 0 then ((comfitref04_Less.f kj23 t634 t635 t660 t661).bind fun t668 => (if t668 = true then ((comfitlaw04_awake.f kj23).bind fun t669 => (some t669)) else (none))) else (none))) else (none))) else (none)) = some r := H
         have A84 := Aside0.mk A840
         clear A840
         by_cases c85 : t662 = 0
         ·rw [if_pos c85] at H
          have c85b0 : (t662 == 0) = true := beq_iff_eq.mpr c85
          have c85b1 : (t662 != 0) = false := bne_eq_false_iff_eq.mpr c85
          clear c85
          replace H := Option.bind_eq_some_iff.mp H
          obtain ⟨t664, A860, H⟩ := H
          replace H : (if t664 = true then (if (Go.bits .and .i64 (shr .i64 a1 (ji81)) 1) = 1 then (if (t660 == t634 && (t661 == t635)) = true then ((comfitlaw04_awake.f kj23).bind fun t665 => (some t665)) else (if (Go.bits .and .i64 (shr .i64 a1 (ji81)) 1) = 0 then ((comfitref04_Less.f kj23 t634 t635 t660 t661).bind fun t666 => (if t666 = true then ((comfitlaw04_awake.f kj23).bind fun t667 => (some t667)) else (none))) else (none))) else (if (Go.bits .and .i64 (shr .i64 a1 (ji81)) 1) = 0 then ((comfitref04_Less.f kj23 t634 t635 t660 t661).bind fun t668 => (if t668 = true then ((comfitlaw04_awake.f kj23).bind fun t669 => (some t669)) else (none))) else (none))) else (none)) = some r := H
          have A86 := Aside0.mk A860
          clear A860
          by_cases c87 : t664 = true
          ·subst c87
           have H1 : (if (Go.bits .and .i64 (shr .i64 a1 (ji81)) 1) = 1 then (if (t660 == t634 && (t661 == t635)) = true then ((comfitlaw04_awake.f kj23).bind fun t665 => (some t665)) else (if (Go.bits .and .i64 (shr .i64 a1 (ji81)) 1) = 0 then ((comfitref04_Less.f kj23 t634 t635 t660 t661).bind fun t666 => (if t666 = true then ((comfitlaw04_awake.f kj23).bind fun t667 => (some t667)) else (none))) else (none))) else (if (Go.bits .and .i64 (shr .i64 a1 (ji81)) 1) = 0 then ((comfitref04_Less.f kj23 t634 t635 t660 t661).bind fun t668 => (if t668 = true then ((comfitlaw04_awake.f kj23).bind fun t669 => (some t669)) else (none))) else (none))) = some r := by rw [if_pos rfl] at H; exact H
           clear H
           have H := H1
           clear H1
           have c88b0 := eq_true (of_decide_eq_true (by first | (with_reducible assumption) | assumption) : 0 ≤ (ji81))
           obtain ⟨ji89, hji89⟩ : ∃ j_ : Int, (shr .i64 a1 (ji81)) = j_ := ⟨_, rfl⟩
           replace H : (if (Go.bits .and .i64 (ji89) 1) = 1 then (if (t660 == t634 && (t661 == t635)) = true then ((comfitlaw04_awake.f kj23).bind fun t665 => (some t665)) else (if (Go.bits .and .i64 (ji89) 1) = 0 then ((comfitref04_Less.f kj23 t634 t635 t660 t661).bind fun t666 => (if t666 = true then ((comfitlaw04_awake.f kj23).bind fun t667 => (some t667)) else (none))) else (none))) else (if (Go.bits .and .i64 (ji89) 1) = 0 then ((comfitref04_Less.f kj23 t634 t635 t660 t661).bind fun t668 => (if t668 = true then ((comfitlaw04_awake.f kj23).bind fun t669 => (some t669)) else (none))) else (none))) = some r := by first | (rw [hji89] at H; exact H) | (simp only [hji89] at H ⊢; exact H)
           (try rw [hji89] at A80)
           (try rw [hji89] at A84)
           (try rw [hji89] at A86)
           have hji89_ : (a1 / 2 ^ min (ji81).toNat 64) = ji89 := hji89
           have hji89z : (ji81) ≤ 64 → (a1 / 2 ^ (ji81).toNat) = ji89 := shr_small hji89
           by_cases c90 : (Go.bits .and .i64 (ji89) 1) = 1
           ·rw [if_pos c90] at H
            have c90b0 : ((Go.bits .and .i64 (ji89) 1) == 1) = true := beq_iff_eq.mpr c90
            have c90b1 : ((Go.bits .and .i64 (ji89) 1) != 1) = false := bne_eq_false_iff_eq.mpr c90
            clear c90
            by_cases c91 : (t660 == t634 && (t661 == t635)) = true
            ·rw [if_pos c91] at H
             have c91b0 : (t660 == t634 && (t661 == t635)) = true := c91
             (try (have c91b1 : decide (t660 = t634 && (t661 == t635)) = true := by simpa using c91))
             (try (have c91b2 : (t660 == t634 && (t661 == t635)) = true := by simpa using c91))
             clear c91
             replace H := Option.bind_eq_some_iff.mp H
             obtain ⟨t665, A920, H⟩ := H
             replace H : (some t665) = some r := H
             have A92 := Aside0.mk A920
             clear A920
             obtain rfl := Option.some.inj H
             try go_wp2
             have n0_ := Aside0.mk (blk_drew BK637.out)
             have n1_ := Aside0.mk (blk_drew BK646.out)
             have n2_ := Aside0.mk (blk_drew BK653.out)
             have n3_ := Aside0.mk (below_drew1 HB.out)
             clear BK637
             clear BK646
             clear BK653
             clear HB
             have BK637 := n0_
             have BK646 := n1_
             have BK653 := n2_
             have HB := n3_
             clear n0_ n1_ n2_ n3_
             refine start_ (n := 13) (S := fun w' => True) (ds := []) #[false, false, false, false, false, false, false, false, false, false, false, false, false] (by kernel_rfl) rfl rfl trivial (fun hHeld => ?_); refine with_tabW comfitlaw04_PacketsTwice.tab9 comfitlaw04_PacketsTwice.bits9 (fun HT_ HW_ => ?_)
             generalize wc.drew = w93 at BK637 BK646 BK653 HB hHeld ⊢
             refine pure_ (i := 0) (N := some 89) (v := ?_) (a' := ?_) #[true, false, false, false, false, false, false, false, false, false, false, false, false] rfl rfl (any_of HT_.out (by kernel_rfl)) (fun _ _ _ h => h) (Or.inl ⟨by rfl, ?_⟩) ?_ ?_
             rotate_left
             ·intro w'
              go_simp
              with_reducible rfl
             rotate_left
             ·simp only [Act.put, List.setIfInBounds_toArray, List.set_cons_zero, List.set_cons_succ, i64_w, i32_w]
              rfl
             refine pure_ (i := 2) (N := some 91) (v := ?_) (a' := ?_) #[true, false, true, false, false, false, false, false, false, false, false, false, false] rfl rfl (any_of HT_.out (by kernel_rfl)) (fun _ _ _ h => h) (Or.inl ⟨by rfl, ?_⟩) ?_ ?_
             rotate_left
             ·intro w'
              go_simp
              with_reducible rfl
             rotate_left
             ·simp only [Act.put, List.setIfInBounds_toArray, List.set_cons_zero, List.set_cons_succ, i64_w, i32_w]
              rfl
             refine pure_ (i := 3) (N := some 92) (v := ?_) (a' := ?_) #[true, false, true, true, false, false, false, false, false, false, false, false, false] rfl rfl (any_of HT_.out (by kernel_rfl)) (fun _ _ _ h => h) (Or.inl ⟨by rfl, ?_⟩) ?_ ?_
             rotate_left
             ·intro w'
              go_simp
              with_reducible rfl
             rotate_left
             ·simp only [Act.put, List.setIfInBounds_toArray, List.set_cons_zero, List.set_cons_succ, i64_w, i32_w]
              rfl
             refine pure_ (i := 4) (N := some 93) (v := ?_) (a' := ?_) #[true, false, true, true, true, false, false, false, false, false, false, false, false] rfl rfl (any_of HT_.out (by kernel_rfl)) (fun _ _ _ h => h) (Or.inl ⟨by rfl, ?_⟩) ?_ ?_
             rotate_left
             ·intro w'
              go_simp
              with_reducible rfl
             rotate_left
             ·simp only [Act.put, List.setIfInBounds_toArray, List.set_cons_zero, List.set_cons_succ, i64_w, i32_w]
              rfl
             refine pure_ (i := 5) (N := some 94) (v := ?_) (a' := ?_) #[true, false, true, true, true, true, false, false, false, false, false, false, false] rfl rfl (any_of HT_.out (by kernel_rfl)) (fun _ _ _ h => h) (Or.inl ⟨by rfl, ?_⟩) ?_ ?_
             rotate_left
             ·intro w'
              go_simp
              with_reducible rfl
             rotate_left
             ·simp only [Act.put, List.setIfInBounds_toArray, List.set_cons_zero, List.set_cons_succ, i64_w, i32_w]
              rfl
             refine join_ (σ := Value × Nat) 2 #[true, true, true, true, true, true, true, true, true, true, true, false, false] (fun s_ => [(90, s_.1), (95, .tuple #[.agg #[.int .i64 t660, .int .i64 t661], .int .i64 t662]), (13, .pointer (some ⟨s_.2, 0, none⟩)), (88, .tuple #[.agg #[.int .i64 t660, .int .i64 t661], .int .i64 t662]), (96, .agg #[.int .i64 t660, .int .i64 t661]), (97, .int .i64 t662)]) (fun s_ w' => (Kd.R (Kd.int .i64) 3 w' w.heap.size (fun _ => True) s_.1 t657) ∧ (w'.heap[gb637]? = some (.cells #[.int .i64 t634, .int .i64 t635] 25 (0, 0))) ∧ (w'.heap[gb646]? = some (.cells #[.int .i64 t643, .int .i64 t644] 25 (0, 0))) ∧ (w'.heap[gb653]? = some (.cells #[.int .i64 t650, .int .i64 t651] 25 (0, 0))) ∧ (w'.heap[s_.2]? = some (.cells #[.int .i64 0, .int .i64 0] 25 (0, 0))) ∧ (w.heap.size ≤ s_.2) ∧ (w.heap.size ≤ s_.2) ∧ (gb637 ≠ s_.2) ∧ (s_.2 ≠ gb637) ∧ (gb646 ≠ s_.2) ∧ (s_.2 ≠ gb646) ∧ (gb653 ≠ s_.2) ∧ (s_.2 ≠ gb653) ∧ (Below w.heap.size w w')) ?_ ?_
             rotate_left
             ·intro hCont
              refine two_ (i := 1) (j := 10) (Ni := some 90) (Nj := some 13) #[true, true, true, true, true, true, false, false, false, false, false, false, false] #[true, false, true, true, true, true, false, false, false, false, true, false, false] rfl rfl rfl rfl (two_of HT_.out (by kernel_rfl)) (by decide) (by decide) (fun K hK => ?_) (fun K hK => ?_)
              ·skip
               refine goes_ Try.func22 (by kernel_rfl) rfl #[.slice A0 l0.length c0] (by rfl) rfl rfl al_ ?_
               with_reducible refine (comfitlaw04_list.calls _ _ l0 t657 _ ?side1 ?side2 A80.out).mono ?_
               (case side1 => exact kc_ (Kd.C_below HR0.out HB.out))
               (case side2 => exact HC0.out)
               rintro e w94 ⟨v658, rfl, ho0, hb⟩
               refine ⟨_, rfl, ?_⟩
               have n0_ := Aside0.mk (Kd.R_lower ho0 (below_size (hb_ HB.out)))
               have n1_ := Aside0.mk (bkb_ BK637.out hb)
               have n2_ := Aside0.mk (bkb_ BK646.out hb)
               have n3_ := Aside0.mk (bkb_ BK653.out hb)
               have n4_ := Aside0.mk (below_step (hb_ HB.out) hb)
               clear BK637
               clear BK646
               clear BK653
               clear HB
               have HO659 := n0_
               have BK637 := n1_
               have BK646 := n2_
               have BK653 := n3_
               have HB := n4_
               clear n0_ n1_ n2_ n3_ n4_
               (try clear hb)
               (try clear hb2)
               (try clear hk)
               (try clear hi)
               (try clear ho0)
               obtain ⟨Ao95, co95, eo95⟩ := Kd.R_slice HO659.out
               (first | subst eo95 | (injection eo95 with f1_ f2_ f3_; have f4_ := f1_.symm; have f5_ := f3_.symm; clear f1_ f2_ f3_; subst f4_; subst f5_))
               refine hK.out _ _ trivial (fun hHeld => ?_)
               clear hK K
               refine norm_ (a' := ?_) ?_ ?_
               rotate_left
               ·show Act.put _ (some 90) _ = _
                simp only [Act.put, List.setIfInBounds_toArray, List.set_cons_zero, List.set_cons_succ, i64_w, i32_w]
                rfl
               refine two_ (i := 6) (j := 10) (Ni := some 95) (Nj := some 13) #[true, true, true, true, true, true, true, false, false, false, false, false, false] #[true, true, true, true, true, true, false, false, false, false, true, false, false] rfl rfl rfl rfl (two_of HT_.out (by kernel_rfl)) (by decide) (by decide) (fun K hK => ?_) (fun K hK => ?_)
               ·skip
                refine goes_ Try.func46 (by kernel_rfl) rfl #[.slice Ao95 t657.length co95, .int .i64 (Go.bits .or .i64 a1 (ji83))] (by rfl) rfl rfl (by (try simp only [List.map_toArray, List.map_cons, List.map_nil]); first | done | (exact congrArg (fun z_ => #[Value.slice Ao95 t657.length co95, Value.int .i64 (Go.bits .or .i64 a1 z_)]) hji83_) | (exact congrArg (fun z_ => #[Value.slice Ao95 t657.length co95, Value.int .i64 (Go.bits .or .i64 a1 z_)]) hji83u) | (exact congrArg (fun z_ => #[Value.slice Ao95 t657.length co95, Value.int .i64 (Go.bits .or .i64 a1 z_)]) hji83y) | (simp only [hji83]; rfl) | rfl | (simp only [List.length_drop, List.length_take]; rfl)) ?_
                with_reducible refine (packets_Pairs.calls kj23 _ _ t657 (Go.bits .or .i64 a1 (ji83)) t660 t661 t662 _ ?side1 ?side2 A84.out).mono ?_
                (case side1 => exact kc_ (Kd.R_reads' HO659.out).2.2)
                (case side2 => exact (Kd.R_reads' HO659.out).2.1)
                rintro e w96 ⟨rfl, hb⟩
                refine ⟨_, rfl, ?_⟩
                have n0_ := Aside0.mk (Kd.R_below (kr_ (HO659.out)) hb)
                have n1_ := Aside0.mk (bkb_ BK637.out hb)
                have n2_ := Aside0.mk (bkb_ BK646.out hb)
                have n3_ := Aside0.mk (bkb_ BK653.out hb)
                have n4_ := Aside0.mk (below_step (hb_ HB.out) hb)
                clear HO659
                clear BK637
                clear BK646
                clear BK653
                clear HB
                have HO659 := n0_
                have BK637 := n1_
                have BK646 := n2_
                have BK653 := n3_
                have HB := n4_
                clear n0_ n1_ n2_ n3_ n4_
                (try clear hb)
                (try clear hb2)
                (try clear hk)
                (try clear hi)
                refine hK.out _ _ trivial (fun hHeld => ?_)
                clear hK K
                refine norm_ (a' := ?_) ?_ ?_
                rotate_left
                ·show Act.put _ (some 95) _ = _
                 simp only [Act.put, List.setIfInBounds_toArray, List.set_cons_zero, List.set_cons_succ, i64_w, i32_w]
                 rfl
                refine pure_ (i := 7) (N := some 88) (v := ?_) (a' := ?_) #[true, true, true, true, true, true, true, true, false, false, false, false, false] rfl rfl (any_of HT_.out (by kernel_rfl)) (fun _ _ _ h => h) (Or.inl ⟨by rfl, ?_⟩) ?_ ?_
                rotate_left
                ·intro w'
                 go_simp
                 with_reducible rfl
                rotate_left
                ·simp only [Act.put, List.setIfInBounds_toArray, List.set_cons_zero, List.set_cons_succ, i64_w, i32_w]
                 rfl
                refine pure_ (i := 8) (N := some 96) (v := ?_) (a' := ?_) #[true, true, true, true, true, true, true, true, true, false, false, false, false] rfl rfl (any_of HT_.out (by kernel_rfl)) (fun _ _ _ h => h) (Or.inl ⟨by rfl, ?_⟩) ?_ ?_
                rotate_left
                ·intro w'
                 go_simp
                 with_reducible rfl
                rotate_left
                ·simp only [Act.put, List.setIfInBounds_toArray, List.set_cons_zero, List.set_cons_succ, i64_w, i32_w]
                 rfl
                refine pure_ (i := 9) (N := some 97) (v := ?_) (a' := ?_) #[true, true, true, true, true, true, true, true, true, true, false, false, false] rfl rfl (any_of HT_.out (by kernel_rfl)) (fun _ _ _ h => h) (Or.inl ⟨by rfl, ?_⟩) ?_ ?_
                rotate_left
                ·intro w'
                 go_simp
                 with_reducible rfl
                rotate_left
                ·simp only [Act.put, List.setIfInBounds_toArray, List.set_cons_zero, List.set_cons_succ, i64_w, i32_w]
                 rfl
                refine one_ (i := 10) (N := some 13) #[true, true, true, true, true, true, true, true, true, true, true, false, false] rfl rfl (one_of HT_.out (by kernel_rfl)) (by decide) (fun K hK => ?_)
                refine box_step ?hg (N := 13) ?hd (cs := #[.int .i64 0, .int .i64 0]) (t := 25) ?hr ?_; (case hd => rfl); (case hg => rfl); (case hr => first | (go_simp; done) | (go_simp; rfl))
                intro gb663 hg w97 hbox hb
                have n0_ := Aside0.mk (Kd.R_below (kr_ (HO659.out)) hb)
                have n1_ := Aside0.mk (bkb_ BK637.out hb)
                have n2_ := Aside0.mk (bkb_ BK646.out hb)
                have n3_ := Aside0.mk (bkb_ BK653.out hb)
                have n4_ := Aside0.mk (below_step (hb_ HB.out) hb)
                have n5_ := Aside0.mk (hbox)
                have n6_ := Aside0.mk ((by rw [hg]; exact (below_size (hb_ HB.out)) : w.heap.size ≤ gb663))
                have n7_ := Aside0.mk ((by rw [hg]; exact (below_size (hb_ HB.out)) : w.heap.size ≤ gb663))
                have n8_ := Aside0.mk ((by rw [hg]; exact Nat.ne_of_lt (bkl_ BK637.out) : gb637 ≠ gb663))
                have n9_ := Aside0.mk ((by rw [hg]; exact Nat.ne_of_gt (bkl_ BK637.out) : gb663 ≠ gb637))
                have n10_ := Aside0.mk ((by rw [hg]; exact Nat.ne_of_lt (bkl_ BK646.out) : gb646 ≠ gb663))
                have n11_ := Aside0.mk ((by rw [hg]; exact Nat.ne_of_gt (bkl_ BK646.out) : gb663 ≠ gb646))
                have n12_ := Aside0.mk ((by rw [hg]; exact Nat.ne_of_lt (bkl_ BK653.out) : gb653 ≠ gb663))
                have n13_ := Aside0.mk ((by rw [hg]; exact Nat.ne_of_gt (bkl_ BK653.out) : gb663 ≠ gb653))
                clear HO659
                clear BK637
                clear BK646
                clear BK653
                clear HB
                have HO659 := n0_
                have BK637 := n1_
                have BK646 := n2_
                have BK653 := n3_
                have HB := n4_
                have BK663 := n5_
                have GW663 := n6_
                have GE663 := n7_
                have NB637_663 := n8_
                have NB663_637 := n9_
                have NB646_663 := n10_
                have NB663_646 := n11_
                have NB653_663 := n12_
                have NB663_653 := n13_
                clear n0_ n1_ n2_ n3_ n4_ n5_ n6_ n7_ n8_ n9_ n10_ n11_ n12_ n13_
                clear hb hbox hg
                refine hK.out _ _ trivial (fun hHeld => ?_)
                clear hK K
                refine norm_ (a' := ?_) ?_ ?_
                rotate_left
                ·show Act.put _ (some 13) _ = _
                 simp only [Act.put, List.setIfInBounds_toArray, List.set_cons_zero, List.set_cons_succ, i64_w, i32_w]
                 rfl
                exact norm_ (by simp only [putAll, Act.put, List.setIfInBounds_toArray, List.set_cons_zero, List.set_cons_succ]) (hCont (.slice Ao95 t657.length co95, gb663) _ ⟨(kr_ (HO659.out)), (bk_ BK637.out), (bk_ BK646.out), (bk_ BK653.out), (bk_ BK663.out), GW663.out, GE663.out, NB637_663.out, NB663_637.out, NB646_663.out, NB663_646.out, NB653_663.out, NB663_653.out, (hb_ HB.out)⟩)
               ·skip
                refine box_step ?hg (N := 13) ?hd (cs := #[.int .i64 0, .int .i64 0]) (t := 25) ?hr ?_; (case hd => rfl); (case hg => rfl); (case hr => first | (go_simp; done) | (go_simp; rfl))
                intro gb663 hg w95 hbox hb
                have n0_ := Aside0.mk (Kd.R_below (kr_ (HO659.out)) hb)
                have n1_ := Aside0.mk (bkb_ BK637.out hb)
                have n2_ := Aside0.mk (bkb_ BK646.out hb)
                have n3_ := Aside0.mk (bkb_ BK653.out hb)
                have n4_ := Aside0.mk (below_step (hb_ HB.out) hb)
                have n5_ := Aside0.mk (hbox)
                have n6_ := Aside0.mk ((by rw [hg]; exact (below_size (hb_ HB.out)) : w.heap.size ≤ gb663))
                have n7_ := Aside0.mk ((by rw [hg]; exact (below_size (hb_ HB.out)) : w.heap.size ≤ gb663))
                have n8_ := Aside0.mk ((by rw [hg]; exact Nat.ne_of_lt (bkl_ BK637.out) : gb637 ≠ gb663))
                have n9_ := Aside0.mk ((by rw [hg]; exact Nat.ne_of_gt (bkl_ BK637.out) : gb663 ≠ gb637))
                have n10_ := Aside0.mk ((by rw [hg]; exact Nat.ne_of_lt (bkl_ BK646.out) : gb646 ≠ gb663))
                have n11_ := Aside0.mk ((by rw [hg]; exact Nat.ne_of_gt (bkl_ BK646.out) : gb663 ≠ gb646))
                have n12_ := Aside0.mk ((by rw [hg]; exact Nat.ne_of_lt (bkl_ BK653.out) : gb653 ≠ gb663))
                have n13_ := Aside0.mk ((by rw [hg]; exact Nat.ne_of_gt (bkl_ BK653.out) : gb663 ≠ gb653))
                clear HO659
                clear BK637
                clear BK646
                clear BK653
                clear HB
                have HO659 := n0_
                have BK637 := n1_
                have BK646 := n2_
                have BK653 := n3_
                have HB := n4_
                have BK663 := n5_
                have GW663 := n6_
                have GE663 := n7_
                have NB637_663 := n8_
                have NB663_637 := n9_
                have NB646_663 := n10_
                have NB663_646 := n11_
                have NB653_663 := n12_
                have NB663_653 := n13_
                clear n0_ n1_ n2_ n3_ n4_ n5_ n6_ n7_ n8_ n9_ n10_ n11_ n12_ n13_
                clear hb hbox hg
                obtain ⟨Ao96, co96, eo96⟩ := Kd.R_slice HO659.out
                (first | subst eo96 | (injection eo96 with f1_ f2_ f3_; have f4_ := f1_.symm; have f5_ := f3_.symm; clear f1_ f2_ f3_; subst f4_; subst f5_))
                refine hK.out _ _ trivial (fun hHeld => ?_)
                clear hK K
                refine norm_ (a' := ?_) ?_ ?_
                rotate_left
                ·show Act.put _ (some 13) _ = _
                 simp only [Act.put, List.setIfInBounds_toArray, List.set_cons_zero, List.set_cons_succ, i64_w, i32_w]
                 rfl
                refine one_ (i := 6) (N := some 95) #[true, true, true, true, true, true, true, false, false, false, true, false, false] rfl rfl (one_of HT_.out (by kernel_rfl)) (by decide) (fun K hK => ?_)
                refine goes_ Try.func46 (by kernel_rfl) rfl #[.slice Ao96 t657.length co96, .int .i64 (Go.bits .or .i64 a1 (ji83))] (by rfl) rfl rfl (by (try simp only [List.map_toArray, List.map_cons, List.map_nil]); first | done | (exact congrArg (fun z_ => #[Value.slice Ao96 t657.length co96, Value.int .i64 (Go.bits .or .i64 a1 z_)]) hji83_) | (exact congrArg (fun z_ => #[Value.slice Ao96 t657.length co96, Value.int .i64 (Go.bits .or .i64 a1 z_)]) hji83u) | (exact congrArg (fun z_ => #[Value.slice Ao96 t657.length co96, Value.int .i64 (Go.bits .or .i64 a1 z_)]) hji83y) | (simp only [hji83]; rfl) | rfl | (simp only [List.length_drop, List.length_take]; rfl)) ?_
                with_reducible refine (packets_Pairs.calls kj23 _ _ t657 (Go.bits .or .i64 a1 (ji83)) t660 t661 t662 _ ?side1 ?side2 A84.out).mono ?_
                (case side1 => exact kc_ (Kd.R_reads' HO659.out).2.2)
                (case side2 => exact (Kd.R_reads' HO659.out).2.1)
                rintro e w97 ⟨rfl, hb⟩
                refine ⟨_, rfl, ?_⟩
                have n0_ := Aside0.mk (Kd.R_below (kr_ (HO659.out)) hb)
                have n1_ := Aside0.mk (bkb_ BK637.out hb)
                have n2_ := Aside0.mk (bkb_ BK646.out hb)
                have n3_ := Aside0.mk (bkb_ BK653.out hb)
                have n4_ := Aside0.mk (bkb_ BK663.out hb)
                have n5_ := Aside0.mk (below_step (hb_ HB.out) hb)
                clear HO659
                clear BK637
                clear BK646
                clear BK653
                clear BK663
                clear HB
                have HO659 := n0_
                have BK637 := n1_
                have BK646 := n2_
                have BK653 := n3_
                have BK663 := n4_
                have HB := n5_
                clear n0_ n1_ n2_ n3_ n4_ n5_
                (try clear hb)
                (try clear hb2)
                (try clear hk)
                (try clear hi)
                refine hK.out _ _ trivial (fun hHeld => ?_)
                clear hK K
                refine norm_ (a' := ?_) ?_ ?_
                rotate_left
                ·show Act.put _ (some 95) _ = _
                 simp only [Act.put, List.setIfInBounds_toArray, List.set_cons_zero, List.set_cons_succ, i64_w, i32_w]
                 rfl
                refine pure_ (i := 7) (N := some 88) (v := ?_) (a' := ?_) #[true, true, true, true, true, true, true, true, false, false, true, false, false] rfl rfl (any_of HT_.out (by kernel_rfl)) (fun _ _ _ h => h) (Or.inl ⟨by rfl, ?_⟩) ?_ ?_
                rotate_left
                ·intro w'
                 go_simp
                 with_reducible rfl
                rotate_left
                ·simp only [Act.put, List.setIfInBounds_toArray, List.set_cons_zero, List.set_cons_succ, i64_w, i32_w]
                 rfl
                refine pure_ (i := 8) (N := some 96) (v := ?_) (a' := ?_) #[true, true, true, true, true, true, true, true, true, false, true, false, false] rfl rfl (any_of HT_.out (by kernel_rfl)) (fun _ _ _ h => h) (Or.inl ⟨by rfl, ?_⟩) ?_ ?_
                rotate_left
                ·intro w'
                 go_simp
                 with_reducible rfl
                rotate_left
                ·simp only [Act.put, List.setIfInBounds_toArray, List.set_cons_zero, List.set_cons_succ, i64_w, i32_w]
                 rfl
                refine pure_ (i := 9) (N := some 97) (v := ?_) (a' := ?_) #[true, true, true, true, true, true, true, true, true, true, true, false, false] rfl rfl (any_of HT_.out (by kernel_rfl)) (fun _ _ _ h => h) (Or.inl ⟨by rfl, ?_⟩) ?_ ?_
                rotate_left
                ·intro w'
                 go_simp
                 with_reducible rfl
                rotate_left
                ·simp only [Act.put, List.setIfInBounds_toArray, List.set_cons_zero, List.set_cons_succ, i64_w, i32_w]
                 rfl
                exact norm_ (by simp only [putAll, Act.put, List.setIfInBounds_toArray, List.set_cons_zero, List.set_cons_succ]) (hCont (.slice Ao96 t657.length co96, gb663) _ ⟨(kr_ (HO659.out)), (bk_ BK637.out), (bk_ BK646.out), (bk_ BK653.out), (bk_ BK663.out), GW663.out, GE663.out, NB637_663.out, NB663_637.out, NB646_663.out, NB663_646.out, NB653_663.out, NB663_653.out, (hb_ HB.out)⟩)
              ·skip
               refine box_step ?hg (N := 13) ?hd (cs := #[.int .i64 0, .int .i64 0]) (t := 25) ?hr ?_; (case hd => rfl); (case hg => rfl); (case hr => first | (go_simp; done) | (go_simp; rfl))
               intro gb663 hg w94 hbox hb
               have n0_ := Aside0.mk (bkb_ BK637.out hb)
               have n1_ := Aside0.mk (bkb_ BK646.out hb)
               have n2_ := Aside0.mk (bkb_ BK653.out hb)
               have n3_ := Aside0.mk (below_step (hb_ HB.out) hb)
               have n4_ := Aside0.mk (hbox)
               have n5_ := Aside0.mk ((by rw [hg]; exact (below_size (hb_ HB.out)) : w.heap.size ≤ gb663))
               have n6_ := Aside0.mk ((by rw [hg]; exact (below_size (hb_ HB.out)) : w.heap.size ≤ gb663))
               have n7_ := Aside0.mk ((by rw [hg]; exact Nat.ne_of_lt (bkl_ BK637.out) : gb637 ≠ gb663))
               have n8_ := Aside0.mk ((by rw [hg]; exact Nat.ne_of_gt (bkl_ BK637.out) : gb663 ≠ gb637))
               have n9_ := Aside0.mk ((by rw [hg]; exact Nat.ne_of_lt (bkl_ BK646.out) : gb646 ≠ gb663))
               have n10_ := Aside0.mk ((by rw [hg]; exact Nat.ne_of_gt (bkl_ BK646.out) : gb663 ≠ gb646))
               have n11_ := Aside0.mk ((by rw [hg]; exact Nat.ne_of_lt (bkl_ BK653.out) : gb653 ≠ gb663))
               have n12_ := Aside0.mk ((by rw [hg]; exact Nat.ne_of_gt (bkl_ BK653.out) : gb663 ≠ gb653))
               clear BK637
               clear BK646
               clear BK653
               clear HB
               have BK637 := n0_
               have BK646 := n1_
               have BK653 := n2_
               have HB := n3_
               have BK663 := n4_
               have GW663 := n5_
               have GE663 := n6_
               have NB637_663 := n7_
               have NB663_637 := n8_
               have NB646_663 := n9_
               have NB663_646 := n10_
               have NB653_663 := n11_
               have NB663_653 := n12_
               clear n0_ n1_ n2_ n3_ n4_ n5_ n6_ n7_ n8_ n9_ n10_ n11_ n12_
               clear hb hbox hg
               refine hK.out _ _ trivial (fun hHeld => ?_)
               clear hK K
               refine norm_ (a' := ?_) ?_ ?_
               rotate_left
               ·show Act.put _ (some 13) _ = _
                simp only [Act.put, List.setIfInBounds_toArray, List.set_cons_zero, List.set_cons_succ, i64_w, i32_w]
                rfl
               refine one_ (i := 1) (N := some 90) #[true, true, true, true, true, true, false, false, false, false, true, false, false] rfl rfl (one_of HT_.out (by kernel_rfl)) (by decide) (fun K hK => ?_)
               refine goes_ Try.func22 (by kernel_rfl) rfl #[.slice A0 l0.length c0] (by rfl) rfl rfl al_ ?_
               with_reducible refine (comfitlaw04_list.calls _ _ l0 t657 _ ?side1 ?side2 A80.out).mono ?_
               (case side1 => exact kc_ (Kd.C_below HR0.out HB.out))
               (case side2 => exact HC0.out)
               rintro e w95 ⟨v658, rfl, ho0, hb⟩
               refine ⟨_, rfl, ?_⟩
               have n0_ := Aside0.mk (Kd.R_lower ho0 (below_size (hb_ HB.out)))
               have n1_ := Aside0.mk (bkb_ BK637.out hb)
               have n2_ := Aside0.mk (bkb_ BK646.out hb)
               have n3_ := Aside0.mk (bkb_ BK653.out hb)
               have n4_ := Aside0.mk (bkb_ BK663.out hb)
               have n5_ := Aside0.mk (below_step (hb_ HB.out) hb)
               clear BK637
               clear BK646
               clear BK653
               clear BK663
               clear HB
               have HO659 := n0_
               have BK637 := n1_
               have BK646 := n2_
               have BK653 := n3_
               have BK663 := n4_
               have HB := n5_
               clear n0_ n1_ n2_ n3_ n4_ n5_
               (try clear hb)
               (try clear hb2)
               (try clear hk)
               (try clear hi)
               (try clear ho0)
               obtain ⟨Ao96, co96, eo96⟩ := Kd.R_slice HO659.out
               (first | subst eo96 | (injection eo96 with f1_ f2_ f3_; have f4_ := f1_.symm; have f5_ := f3_.symm; clear f1_ f2_ f3_; subst f4_; subst f5_))
               refine hK.out _ _ trivial (fun hHeld => ?_)
               clear hK K
               refine norm_ (a' := ?_) ?_ ?_
               rotate_left
               ·show Act.put _ (some 90) _ = _
                simp only [Act.put, List.setIfInBounds_toArray, List.set_cons_zero, List.set_cons_succ, i64_w, i32_w]
                rfl
               refine one_ (i := 6) (N := some 95) #[true, true, true, true, true, true, true, false, false, false, true, false, false] rfl rfl (one_of HT_.out (by kernel_rfl)) (by decide) (fun K hK => ?_)
               refine goes_ Try.func46 (by kernel_rfl) rfl #[.slice Ao96 t657.length co96, .int .i64 (Go.bits .or .i64 a1 (ji83))] (by rfl) rfl rfl (by (try simp only [List.map_toArray, List.map_cons, List.map_nil]); first | done | (exact congrArg (fun z_ => #[Value.slice Ao96 t657.length co96, Value.int .i64 (Go.bits .or .i64 a1 z_)]) hji83_) | (exact congrArg (fun z_ => #[Value.slice Ao96 t657.length co96, Value.int .i64 (Go.bits .or .i64 a1 z_)]) hji83u) | (exact congrArg (fun z_ => #[Value.slice Ao96 t657.length co96, Value.int .i64 (Go.bits .or .i64 a1 z_)]) hji83y) | (simp only [hji83]; rfl) | rfl | (simp only [List.length_drop, List.length_take]; rfl)) ?_
               with_reducible refine (packets_Pairs.calls kj23 _ _ t657 (Go.bits .or .i64 a1 (ji83)) t660 t661 t662 _ ?side1 ?side2 A84.out).mono ?_
               (case side1 => exact kc_ (Kd.R_reads' HO659.out).2.2)
               (case side2 => exact (Kd.R_reads' HO659.out).2.1)
               rintro e w97 ⟨rfl, hb⟩
               refine ⟨_, rfl, ?_⟩
               have n0_ := Aside0.mk (Kd.R_below (kr_ (HO659.out)) hb)
               have n1_ := Aside0.mk (bkb_ BK637.out hb)
               have n2_ := Aside0.mk (bkb_ BK646.out hb)
               have n3_ := Aside0.mk (bkb_ BK653.out hb)
               have n4_ := Aside0.mk (bkb_ BK663.out hb)
               have n5_ := Aside0.mk (below_step (hb_ HB.out) hb)
               clear HO659
               clear BK637
               clear BK646
               clear BK653
               clear BK663
               clear HB
               have HO659 := n0_
               have BK637 := n1_
               have BK646 := n2_
               have BK653 := n3_
               have BK663 := n4_
               have HB := n5_
               clear n0_ n1_ n2_ n3_ n4_ n5_
               (try clear hb)
               (try clear hb2)
               (try clear hk)
               (try clear hi)
               refine hK.out _ _ trivial (fun hHeld => ?_)
               clear hK K
               refine norm_ (a' := ?_) ?_ ?_
               rotate_left
               ·show Act.put _ (some 95) _ = _
                simp only [Act.put, List.setIfInBounds_toArray, List.set_cons_zero, List.set_cons_succ, i64_w, i32_w]
                rfl
               refine pure_ (i := 7) (N := some 88) (v := ?_) (a' := ?_) #[true, true, true, true, true, true, true, true, false, false, true, false, false] rfl rfl (any_of HT_.out (by kernel_rfl)) (fun _ _ _ h => h) (Or.inl ⟨by rfl, ?_⟩) ?_ ?_
               rotate_left
               ·intro w'
                go_simp
                with_reducible rfl
               rotate_left
               ·simp only [Act.put, List.setIfInBounds_toArray, List.set_cons_zero, List.set_cons_succ, i64_w, i32_w]
                rfl
               refine pure_ (i := 8) (N := some 96) (v := ?_) (a' := ?_) #[true, true, true, true, true, true, true, true, true, false, true, false, false] rfl rfl (any_of HT_.out (by kernel_rfl)) (fun _ _ _ h => h) (Or.inl ⟨by rfl, ?_⟩) ?_ ?_
               rotate_left
               ·intro w'
                go_simp
                with_reducible rfl
               rotate_left
               ·simp only [Act.put, List.setIfInBounds_toArray, List.set_cons_zero, List.set_cons_succ, i64_w, i32_w]
                rfl
               refine pure_ (i := 9) (N := some 97) (v := ?_) (a' := ?_) #[true, true, true, true, true, true, true, true, true, true, true, false, false] rfl rfl (any_of HT_.out (by kernel_rfl)) (fun _ _ _ h => h) (Or.inl ⟨by rfl, ?_⟩) ?_ ?_
               rotate_left
               ·intro w'
                go_simp
                with_reducible rfl
               rotate_left
               ·simp only [Act.put, List.setIfInBounds_toArray, List.set_cons_zero, List.set_cons_succ, i64_w, i32_w]
                rfl
               exact norm_ (by simp only [putAll, Act.put, List.setIfInBounds_toArray, List.set_cons_zero, List.set_cons_succ]) (hCont (.slice Ao96 t657.length co96, gb663) _ ⟨(kr_ (HO659.out)), (bk_ BK637.out), (bk_ BK646.out), (bk_ BK653.out), (bk_ BK663.out), GW663.out, GE663.out, NB637_663.out, NB663_637.out, NB646_663.out, NB663_646.out, NB653_663.out, NB663_653.out, (hb_ HB.out)⟩)
             rintro ⟨v658, gb663⟩ w98 ⟨h0_, h1_, h2_, h3_, h4_, h5_, h6_, h7_, h8_, h9_, h10_, h11_, h12_, h13_⟩
             have n0_ : Aside0 (Kd.R (Kd.int .i64) 3 w98 w.heap.size (fun _ => True) v658 t657) := ⟨h0_⟩
             have n1_ : Aside0 (w98.heap[gb637]? = some (.cells #[.int .i64 t634, .int .i64 t635] 25 (0, 0))) := ⟨h1_⟩
             have n2_ : Aside0 (w98.heap[gb646]? = some (.cells #[.int .i64 t643, .int .i64 t644] 25 (0, 0))) := ⟨h2_⟩
             have n3_ : Aside0 (w98.heap[gb653]? = some (.cells #[.int .i64 t650, .int .i64 t651] 25 (0, 0))) := ⟨h3_⟩
             have n4_ : Aside0 (w98.heap[gb663]? = some (.cells #[.int .i64 0, .int .i64 0] 25 (0, 0))) := ⟨h4_⟩
             have n5_ : Aside0 (w.heap.size ≤ gb663) := ⟨h5_⟩
             have n6_ : Aside0 (w.heap.size ≤ gb663) := ⟨h6_⟩
             have n7_ : Aside0 (gb637 ≠ gb663) := ⟨h7_⟩
             have n8_ : Aside0 (gb663 ≠ gb637) := ⟨h8_⟩
             have n9_ : Aside0 (gb646 ≠ gb663) := ⟨h9_⟩
             have n10_ : Aside0 (gb663 ≠ gb646) := ⟨h10_⟩
             have n11_ : Aside0 (gb653 ≠ gb663) := ⟨h11_⟩
             have n12_ : Aside0 (gb663 ≠ gb653) := ⟨h12_⟩
             have n13_ : Aside0 (Below w.heap.size w w98) := ⟨h13_⟩
             clear BK637
             clear BK646
             clear BK653
             clear HB
             clear h0_ h1_ h2_ h3_ h4_ h5_ h6_ h7_ h8_ h9_ h10_ h11_ h12_ h13_
             have HO659 := n0_
             have BK637 := n1_
             have BK646 := n2_
             have BK653 := n3_
             have BK663 := n4_
             have GW663 := n5_
             have GE663 := n6_
             have NB637_663 := n7_
             have NB663_637 := n8_
             have NB646_663 := n9_
             have NB663_646 := n10_
             have NB653_663 := n11_
             have NB663_653 := n12_
             have HB := n13_
             clear n0_ n1_ n2_ n3_ n4_ n5_ n6_ n7_ n8_ n9_ n10_ n11_ n12_ n13_
             have hHeld := trivial
             refine norm_ (a' := ?_) ?_ ?_
             rotate_left
             ·simp only [putAll, Act.put, List.setIfInBounds_toArray, List.set_cons_zero, List.set_cons_succ]
              rfl
             refine one_ (i := 11) (N := none) #[true, true, true, true, true, true, true, true, true, true, true, true, false] rfl rfl (one_of HT_.out (by kernel_rfl)) (by decide) (fun K hK => ?_)
             have hs99 : w98.cell? ⟨gb663, 0, none⟩ = some (.int .i64 0) := (blk_cell BK663.out 0).trans rfl
             have hfs99 := blk_frozen BK663.out 0
             have hns99_0 := NB637_663.out
             have hns99_1 := NB646_663.out
             have hns99_2 := NB653_663.out
             have hms99_0 := NB663_637.out
             have hms99_1 := NB663_646.out
             have hms99_2 := NB663_653.out
             have hs100 : w98.cell? ⟨gb663, 1, none⟩ = some (.int .i64 0) := (blk_cell BK663.out 1).trans rfl
             have hfs100 := blk_frozen BK663.out 1
             have hns100_0 := NB637_663.out
             have hns100_1 := NB646_663.out
             have hns100_2 := NB653_663.out
             have hms100_0 := NB663_637.out
             have hms100_1 := NB663_646.out
             have hms100_2 := NB663_653.out
             refine skip_ (w1 := ?_) (by rfl) rfl ?_ ?_
             rotate_left
             ·go_simp
              rfl
             refine hK.out _ _ trivial (fun hHeld => ?_)
             clear hK K
             refine pure_ (i := 12) (N := some 8) (v := ?_) (a' := ?_) #[true, true, true, true, true, true, true, true, true, true, true, true, true] rfl rfl (any_of HT_.out (by kernel_rfl)) (fun _ _ _ h => h) (Or.inl ⟨by rfl, ?_⟩) ?_ ?_
             rotate_left
             ·intro w'
              go_simp
              with_reducible rfl
             rotate_left
             ·simp only [Act.put, List.setIfInBounds_toArray, List.set_cons_zero, List.set_cons_succ, i64_w, i32_w]
              rfl
             refine done_ (done_of HT_.out (by kernel_rfl)) ?_
             have hnb101 := NB663_637.out
             have hnc101 := NB637_663.out
             have hnb102 := NB663_646.out
             have hnc102 := NB646_663.out
             have hnb103 := NB663_653.out
             have hnc103 := NB653_663.out
             have hcz104_0 : w98.cell? ⟨gb663, 0, none⟩ = some (.int .i64 0) := (blk_cell BK663.out 0).trans rfl
             have hcz104_1 : w98.cell? ⟨gb663, 1, none⟩ = some (.int .i64 0) := (blk_cell BK663.out 1).trans rfl
             have hfz104_0 := blk_frozen BK663.out 0
             have hfz104_1 := blk_frozen BK663.out 1
             try go_wp2_with (first | (go_at_call 19; (with_reducible refine (comfitlaw04_right.calls t660 t661 400 true _ A86.out).mono ?_); rintro e w105 ⟨rfl, hb⟩; have n0_ := Aside0.mk (Kd.R_below (by (with_reducible repeat (first | apply Kd.R_alloc | apply Kd.R_drewN | apply Kd.R_drew)); exact (Kd.R_mono (Kd.R_far (p := ⟨gb663, 1, none⟩) (Kd.R_far (p := ⟨gb663, 0, none⟩) (Kd.R_types HO659.out BK663.out (by decide)) (fun _ hk => hk.2) (.int .i64 t660)) (fun _ hk => hk.2) (.int .i64 t661)) (fun _ h_ => h_.1))) hb); have n1_ := Aside0.mk (blk_below (g := gb637) (o := .cells #[.int .i64 t634, .int .i64 t635] 25 (0, 0)) (by (with_reducible repeat (first | refine blk_drewN ?_ _ | refine blk_drew ?_ | refine blk_alloc ?_ _)); refine blk_far ?_ NB637_663.out _; (with_reducible repeat (first | refine blk_drewN ?_ _ | refine blk_drew ?_ | refine blk_alloc ?_ _)); refine blk_far ?_ NB637_663.out _; (with_reducible repeat (first | refine blk_drewN ?_ _ | refine blk_drew ?_ | refine blk_alloc ?_ _)); exact BK637.out) hb); have n2_ := Aside0.mk (blk_below (g := gb646) (o := .cells #[.int .i64 t643, .int .i64 t644] 25 (0, 0)) (by (with_reducible repeat (first | refine blk_drewN ?_ _ | refine blk_drew ?_ | refine blk_alloc ?_ _)); refine blk_far ?_ NB646_663.out _; (with_reducible repeat (first | refine blk_drewN ?_ _ | refine blk_drew ?_ | refine blk_alloc ?_ _)); refine blk_far ?_ NB646_663.out _; (with_reducible repeat (first | refine blk_drewN ?_ _ | refine blk_drew ?_ | refine blk_alloc ?_ _)); exact BK646.out) hb); have n3_ := Aside0.mk (blk_below (g := gb653) (o := .cells #[.int .i64 t650, .int .i64 t651] 25 (0, 0)) (by (with_reducible repeat (first | refine blk_drewN ?_ _ | refine blk_drew ?_ | refine blk_alloc ?_ _)); refine blk_far ?_ NB653_663.out _; (with_reducible repeat (first | refine blk_drewN ?_ _ | refine blk_drew ?_ | refine blk_alloc ?_ _)); refine blk_far ?_ NB653_663.out _; (with_reducible repeat (first | refine blk_drewN ?_ _ | refine blk_drew ?_ | refine blk_alloc ?_ _)); exact BK653.out) hb); have n4_ := Aside0.mk (blk_below (g := gb663) (o := .cells #[.int .i64 t660, .int .i64 t661] 25 (0, 0)) (by (with_reducible repeat (first | refine blk_drewN ?_ _ | refine blk_drew ?_ | refine blk_alloc ?_ _)); refine blk_put (cs := #[.int .i64 t660, .int .i64 0]) ?_ 1 _ rfl; (with_reducible repeat (first | refine blk_drewN ?_ _ | refine blk_drew ?_ | refine blk_alloc ?_ _)); refine blk_put (cs := #[.int .i64 0, .int .i64 0]) ?_ 0 _ rfl; (with_reducible repeat (first | refine blk_drewN ?_ _ | refine blk_drew ?_ | refine blk_alloc ?_ _)); exact BK663.out) hb); have n5_ := Aside0.mk (below_step (hb_ HB.out) hb); clear HO659; clear BK637; clear BK646; clear BK653; clear BK663; clear HB; have HO659 := n0_; have BK637 := n1_; have BK646 := n2_; have BK653 := n3_; have BK663 := n4_; have HB := n5_; clear n0_ n1_ n2_ n3_ n4_ n5_; (try clear hb); (try clear hb2); (try clear hk); (try clear hi); have hcz106_0 : w105.cell? ⟨gb663, 0, none⟩ = some (.int .i64 t660) := (blk_cell BK663.out 0).trans rfl; have hcz106_1 : w105.cell? ⟨gb663, 1, none⟩ = some (.int .i64 t661) := (blk_cell BK663.out 1).trans rfl; have hfz106_0 := blk_frozen BK663.out 0; have hfz106_1 := blk_frozen BK663.out 1; have hnb107 := NB637_646.out; have hnc107 := NB646_637.out; have hnb108 := NB637_653.out; have hnc108 := NB653_637.out; have hcz109_0 : w105.cell? ⟨gb637, 0, none⟩ = some (.int .i64 t634) := (blk_cell BK637.out 0).trans rfl; have hcz109_1 : w105.cell? ⟨gb637, 1, none⟩ = some (.int .i64 t635) := (blk_cell BK637.out 1).trans rfl; have hfz109_0 := blk_frozen BK637.out 0; have hfz109_1 := blk_frozen BK637.out 1) | (go_at_call 20; (with_reducible refine (comfitlaw04_awake.calls kj23  t665 _ A92.out).mono ?_); rintro e w110 ⟨rfl, hb⟩; have n0_ := Aside0.mk (Kd.R_below (kr_ (HO659.out)) hb); have n1_ := Aside0.mk (bkb_ BK637.out hb); have n2_ := Aside0.mk (bkb_ BK646.out hb); have n3_ := Aside0.mk (bkb_ BK653.out hb); have n4_ := Aside0.mk (bkb_ BK663.out hb); have n5_ := Aside0.mk (below_step (hb_ HB.out) hb); clear HO659; clear BK637; clear BK646; clear BK653; clear BK663; clear HB; have HO659 := n0_; have BK637 := n1_; have BK646 := n2_; have BK653 := n3_; have BK663 := n4_; have HB := n5_; clear n0_ n1_ n2_ n3_ n4_ n5_; (try clear hb); (try clear hb2); (try clear hk); (try clear hi)))
             go_ret
             exact ⟨by first | rfl | (simp [errW_none, errW_some] <;> rfl) | (simp only [← hji22, ← hji81, ← hji83, ← hji89]; first | rfl | (simp [errW_none, errW_some] <;> rfl)) | (simp [*, errW_none, errW_some] <;> rfl), by repeat (first | (with_reducible first | exact HB.out | apply below_alloc | apply pw_below_drewN | apply below_drew1 | refine below_set ?_ GE637.out | refine below_set ?_ GE646.out | refine below_set ?_ GE653.out | refine below_set ?_ GE663.out) | exact HB.out)⟩
            ·rw [if_neg c91] at H
             have c91b0 : (t660 == t634 && (t661 == t635)) = false := by simpa using c91
             (try (have c91b1 : decide (t660 = t634 && (t661 == t635)) = false := by simpa using c91))
             (try (have c91b2 : (t660 == t634 && (t661 == t635)) = false := by simpa using c91))
             (try (have c91b3 : ¬ (t660 = t634 && (t661 == t635)) := by simpa using c91))
             clear c91
             have c111b0 := eq_true (of_decide_eq_true (by first | (with_reducible assumption) | assumption) : 0 ≤ (ji81))
             by_cases c112 : (Go.bits .and .i64 (ji89) 1) = 0
             ·exact absurd (c112.symm.trans (eq_of_beq c90b0)) (by decide)
             ·rw [if_neg c112] at H
              exact absurd H (by simp)
           ·rw [if_neg c90] at H
            have c90b0 : ((Go.bits .and .i64 (ji89) 1) == 1) = false := beq_eq_false_iff_ne.mpr c90
            have c90b1 : ((Go.bits .and .i64 (ji89) 1) != 1) = true := bne_iff_ne.mpr c90
            have c135b0 := eq_true (of_decide_eq_true (by first | (with_reducible assumption) | assumption) : 0 ≤ (ji81))
            by_cases c136 : (Go.bits .and .i64 (ji89) 1) = 0
            ·rw [if_pos c136] at H
             have c136b0 : ((Go.bits .and .i64 (ji89) 1) == 0) = true := beq_iff_eq.mpr c136
             have c136b1 : ((Go.bits .and .i64 (ji89) 1) != 0) = false := bne_eq_false_iff_eq.mpr c136
             clear c136
             replace H := Option.bind_eq_some_iff.mp H
             obtain ⟨t668, A1370, H⟩ := H
             replace H : (if t668 = true then ((comfitlaw04_awake.f kj23).bind fun t669 => (some t669)) else (none)) = some r := H
             have A137 := Aside0.mk A1370
             clear A1370
             by_cases c138 : t668 = true
             ·subst c138
              have H1 : ((comfitlaw04_awake.f kj23).bind fun t669 => (some t669)) = some r := by rw [if_pos rfl] at H; exact H
              clear H
              have H := H1
              clear H1
              replace H := Option.bind_eq_some_iff.mp H
              obtain ⟨t669, A1390, H⟩ := H
              replace H : (some t669) = some r := H
              have A139 := Aside0.mk A1390
              clear A1390
              obtain rfl := Option.some.inj H
              try go_wp2
              have n0_ := Aside0.mk (blk_drew BK637.out)
              have n1_ := Aside0.mk (blk_drew BK646.out)
              have n2_ := Aside0.mk (blk_drew BK653.out)
              have n3_ := Aside0.mk (below_drew1 HB.out)
              clear BK637
              clear BK646
              clear BK653
              clear HB
              have BK637 := n0_
              have BK646 := n1_
              have BK653 := n2_
              have HB := n3_
              clear n0_ n1_ n2_ n3_
              refine start_ (n := 13) (S := fun w' => True) (ds := []) #[false, false, false, false, false, false, false, false, false, false, false, false, false] (by kernel_rfl) rfl rfl trivial (fun hHeld => ?_); refine with_tabW comfitlaw04_PacketsTwice.tab9 comfitlaw04_PacketsTwice.bits9 (fun HT_ HW_ => ?_)
              generalize wc.drew = w140 at BK637 BK646 BK653 HB hHeld ⊢
              refine pure_ (i := 0) (N := some 89) (v := ?_) (a' := ?_) #[true, false, false, false, false, false, false, false, false, false, false, false, false] rfl rfl (any_of HT_.out (by kernel_rfl)) (fun _ _ _ h => h) (Or.inl ⟨by rfl, ?_⟩) ?_ ?_
              rotate_left
              ·intro w'
               go_simp
               with_reducible rfl
              rotate_left
              ·simp only [Act.put, List.setIfInBounds_toArray, List.set_cons_zero, List.set_cons_succ, i64_w, i32_w]
               rfl
              refine pure_ (i := 2) (N := some 91) (v := ?_) (a' := ?_) #[true, false, true, false, false, false, false, false, false, false, false, false, false] rfl rfl (any_of HT_.out (by kernel_rfl)) (fun _ _ _ h => h) (Or.inl ⟨by rfl, ?_⟩) ?_ ?_
              rotate_left
              ·intro w'
               go_simp
               with_reducible rfl
              rotate_left
              ·simp only [Act.put, List.setIfInBounds_toArray, List.set_cons_zero, List.set_cons_succ, i64_w, i32_w]
               rfl
              refine pure_ (i := 3) (N := some 92) (v := ?_) (a' := ?_) #[true, false, true, true, false, false, false, false, false, false, false, false, false] rfl rfl (any_of HT_.out (by kernel_rfl)) (fun _ _ _ h => h) (Or.inl ⟨by rfl, ?_⟩) ?_ ?_
              rotate_left
              ·intro w'
               go_simp
               with_reducible rfl
              rotate_left
              ·simp only [Act.put, List.setIfInBounds_toArray, List.set_cons_zero, List.set_cons_succ, i64_w, i32_w]
               rfl
              refine pure_ (i := 4) (N := some 93) (v := ?_) (a' := ?_) #[true, false, true, true, true, false, false, false, false, false, false, false, false] rfl rfl (any_of HT_.out (by kernel_rfl)) (fun _ _ _ h => h) (Or.inl ⟨by rfl, ?_⟩) ?_ ?_
              rotate_left
              ·intro w'
               go_simp
               with_reducible rfl
              rotate_left
              ·simp only [Act.put, List.setIfInBounds_toArray, List.set_cons_zero, List.set_cons_succ, i64_w, i32_w]
               rfl
              refine pure_ (i := 5) (N := some 94) (v := ?_) (a' := ?_) #[true, false, true, true, true, true, false, false, false, false, false, false, false] rfl rfl (any_of HT_.out (by kernel_rfl)) (fun _ _ _ h => h) (Or.inl ⟨by rfl, ?_⟩) ?_ ?_
              rotate_left
              ·intro w'
               go_simp
               with_reducible rfl
              rotate_left
              ·simp only [Act.put, List.setIfInBounds_toArray, List.set_cons_zero, List.set_cons_succ, i64_w, i32_w]
               rfl
              refine join_ (σ := Value × Nat) 2 #[true, true, true, true, true, true, true, true, true, true, true, false, false] (fun s_ => [(90, s_.1), (95, .tuple #[.agg #[.int .i64 t660, .int .i64 t661], .int .i64 t662]), (13, .pointer (some ⟨s_.2, 0, none⟩)), (88, .tuple #[.agg #[.int .i64 t660, .int .i64 t661], .int .i64 t662]), (96, .agg #[.int .i64 t660, .int .i64 t661]), (97, .int .i64 t662)]) (fun s_ w' => (Kd.R (Kd.int .i64) 3 w' w.heap.size (fun _ => True) s_.1 t657) ∧ (w'.heap[gb637]? = some (.cells #[.int .i64 t634, .int .i64 t635] 25 (0, 0))) ∧ (w'.heap[gb646]? = some (.cells #[.int .i64 t643, .int .i64 t644] 25 (0, 0))) ∧ (w'.heap[gb653]? = some (.cells #[.int .i64 t650, .int .i64 t651] 25 (0, 0))) ∧ (w'.heap[s_.2]? = some (.cells #[.int .i64 0, .int .i64 0] 25 (0, 0))) ∧ (w.heap.size ≤ s_.2) ∧ (w.heap.size ≤ s_.2) ∧ (gb637 ≠ s_.2) ∧ (s_.2 ≠ gb637) ∧ (gb646 ≠ s_.2) ∧ (s_.2 ≠ gb646) ∧ (gb653 ≠ s_.2) ∧ (s_.2 ≠ gb653) ∧ (Below w.heap.size w w')) ?_ ?_
              rotate_left
              ·intro hCont
               refine two_ (i := 1) (j := 10) (Ni := some 90) (Nj := some 13) #[true, true, true, true, true, true, false, false, false, false, false, false, false] #[true, false, true, true, true, true, false, false, false, false, true, false, false] rfl rfl rfl rfl (two_of HT_.out (by kernel_rfl)) (by decide) (by decide) (fun K hK => ?_) (fun K hK => ?_)
               ·skip
                refine goes_ Try.func22 (by kernel_rfl) rfl #[.slice A0 l0.length c0] (by rfl) rfl rfl al_ ?_
                with_reducible refine (comfitlaw04_list.calls _ _ l0 t657 _ ?side1 ?side2 A80.out).mono ?_
                (case side1 => exact kc_ (Kd.C_below HR0.out HB.out))
                (case side2 => exact HC0.out)
                rintro e w141 ⟨v658, rfl, ho0, hb⟩
                refine ⟨_, rfl, ?_⟩
                have n0_ := Aside0.mk (Kd.R_lower ho0 (below_size (hb_ HB.out)))
                have n1_ := Aside0.mk (bkb_ BK637.out hb)
                have n2_ := Aside0.mk (bkb_ BK646.out hb)
                have n3_ := Aside0.mk (bkb_ BK653.out hb)
                have n4_ := Aside0.mk (below_step (hb_ HB.out) hb)
                clear BK637
                clear BK646
                clear BK653
                clear HB
                have HO659 := n0_
                have BK637 := n1_
                have BK646 := n2_
                have BK653 := n3_
                have HB := n4_
                clear n0_ n1_ n2_ n3_ n4_
                (try clear hb)
                (try clear hb2)
                (try clear hk)
                (try clear hi)
                (try clear ho0)
                obtain ⟨Ao142, co142, eo142⟩ := Kd.R_slice HO659.out
                (first | subst eo142 | (injection eo142 with f1_ f2_ f3_; have f4_ := f1_.symm; have f5_ := f3_.symm; clear f1_ f2_ f3_; subst f4_; subst f5_))
                refine hK.out _ _ trivial (fun hHeld => ?_)
                clear hK K
                refine norm_ (a' := ?_) ?_ ?_
                rotate_left
                ·show Act.put _ (some 90) _ = _
                 simp only [Act.put, List.setIfInBounds_toArray, List.set_cons_zero, List.set_cons_succ, i64_w, i32_w]
                 rfl
                refine two_ (i := 6) (j := 10) (Ni := some 95) (Nj := some 13) #[true, true, true, true, true, true, true, false, false, false, false, false, false] #[true, true, true, true, true, true, false, false, false, false, true, false, false] rfl rfl rfl rfl (two_of HT_.out (by kernel_rfl)) (by decide) (by decide) (fun K hK => ?_) (fun K hK => ?_)
                ·skip
                 refine goes_ Try.func46 (by kernel_rfl) rfl #[.slice Ao142 t657.length co142, .int .i64 (Go.bits .or .i64 a1 (ji83))] (by rfl) rfl rfl (by (try simp only [List.map_toArray, List.map_cons, List.map_nil]); first | done | (exact congrArg (fun z_ => #[Value.slice Ao142 t657.length co142, Value.int .i64 (Go.bits .or .i64 a1 z_)]) hji83_) | (exact congrArg (fun z_ => #[Value.slice Ao142 t657.length co142, Value.int .i64 (Go.bits .or .i64 a1 z_)]) hji83u) | (exact congrArg (fun z_ => #[Value.slice Ao142 t657.length co142, Value.int .i64 (Go.bits .or .i64 a1 z_)]) hji83y) | (simp only [hji83]; rfl) | rfl | (simp only [List.length_drop, List.length_take]; rfl)) ?_
                 with_reducible refine (packets_Pairs.calls kj23 _ _ t657 (Go.bits .or .i64 a1 (ji83)) t660 t661 t662 _ ?side1 ?side2 A84.out).mono ?_
                 (case side1 => exact kc_ (Kd.R_reads' HO659.out).2.2)
                 (case side2 => exact (Kd.R_reads' HO659.out).2.1)
                 rintro e w143 ⟨rfl, hb⟩
                 refine ⟨_, rfl, ?_⟩
                 have n0_ := Aside0.mk (Kd.R_below (kr_ (HO659.out)) hb)
                 have n1_ := Aside0.mk (bkb_ BK637.out hb)
                 have n2_ := Aside0.mk (bkb_ BK646.out hb)
                 have n3_ := Aside0.mk (bkb_ BK653.out hb)
                 have n4_ := Aside0.mk (below_step (hb_ HB.out) hb)
                 clear HO659
                 clear BK637
                 clear BK646
                 clear BK653
                 clear HB
                 have HO659 := n0_
                 have BK637 := n1_
                 have BK646 := n2_
                 have BK653 := n3_
                 have HB := n4_
                 clear n0_ n1_ n2_ n3_ n4_
                 (try clear hb)
                 (try clear hb2)
                 (try clear hk)
                 (try clear hi)
                 refine hK.out _ _ trivial (fun hHeld => ?_)
                 clear hK K
                 refine norm_ (a' := ?_) ?_ ?_
                 rotate_left
                 ·show Act.put _ (some 95) _ = _
                  simp only [Act.put, List.setIfInBounds_toArray, List.set_cons_zero, List.set_cons_succ, i64_w, i32_w]
                  rfl
                 refine pure_ (i := 7) (N := some 88) (v := ?_) (a' := ?_) #[true, true, true, true, true, true, true, true, false, false, false, false, false] rfl rfl (any_of HT_.out (by kernel_rfl)) (fun _ _ _ h => h) (Or.inl ⟨by rfl, ?_⟩) ?_ ?_
                 rotate_left
                 ·intro w'
                  go_simp
                  with_reducible rfl
                 rotate_left
                 ·simp only [Act.put, List.setIfInBounds_toArray, List.set_cons_zero, List.set_cons_succ, i64_w, i32_w]
                  rfl
                 refine pure_ (i := 8) (N := some 96) (v := ?_) (a' := ?_) #[true, true, true, true, true, true, true, true, true, false, false, false, false] rfl rfl (any_of HT_.out (by kernel_rfl)) (fun _ _ _ h => h) (Or.inl ⟨by rfl, ?_⟩) ?_ ?_
                 rotate_left
                 ·intro w'
                  go_simp
                  with_reducible rfl
                 rotate_left
                 ·simp only [Act.put, List.setIfInBounds_toArray, List.set_cons_zero, List.set_cons_succ, i64_w, i32_w]
                  rfl
                 refine pure_ (i := 9) (N := some 97) (v := ?_) (a' := ?_) #[true, true, true, true, true, true, true, true, true, true, false, false, false] rfl rfl (any_of HT_.out (by kernel_rfl)) (fun _ _ _ h => h) (Or.inl ⟨by rfl, ?_⟩) ?_ ?_
                 rotate_left
                 ·intro w'
                  go_simp
                  with_reducible rfl
                 rotate_left
                 ·simp only [Act.put, List.setIfInBounds_toArray, List.set_cons_zero, List.set_cons_succ, i64_w, i32_w]
                  rfl
                 refine one_ (i := 10) (N := some 13) #[true, true, true, true, true, true, true, true, true, true, true, false, false] rfl rfl (one_of HT_.out (by kernel_rfl)) (by decide) (fun K hK => ?_)
                 refine box_step ?hg (N := 13) ?hd (cs := #[.int .i64 0, .int .i64 0]) (t := 25) ?hr ?_; (case hd => rfl); (case hg => rfl); (case hr => first | (go_simp; done) | (go_simp; rfl))
                 intro gb663 hg w144 hbox hb
                 have n0_ := Aside0.mk (Kd.R_below (kr_ (HO659.out)) hb)
                 have n1_ := Aside0.mk (bkb_ BK637.out hb)
                 have n2_ := Aside0.mk (bkb_ BK646.out hb)
                 have n3_ := Aside0.mk (bkb_ BK653.out hb)
                 have n4_ := Aside0.mk (below_step (hb_ HB.out) hb)
                 have n5_ := Aside0.mk (hbox)
                 have n6_ := Aside0.mk ((by rw [hg]; exact (below_size (hb_ HB.out)) : w.heap.size ≤ gb663))
                 have n7_ := Aside0.mk ((by rw [hg]; exact (below_size (hb_ HB.out)) : w.heap.size ≤ gb663))
                 have n8_ := Aside0.mk ((by rw [hg]; exact Nat.ne_of_lt (bkl_ BK637.out) : gb637 ≠ gb663))
                 have n9_ := Aside0.mk ((by rw [hg]; exact Nat.ne_of_gt (bkl_ BK637.out) : gb663 ≠ gb637))
                 have n10_ := Aside0.mk ((by rw [hg]; exact Nat.ne_of_lt (bkl_ BK646.out) : gb646 ≠ gb663))
                 have n11_ := Aside0.mk ((by rw [hg]; exact Nat.ne_of_gt (bkl_ BK646.out) : gb663 ≠ gb646))
                 have n12_ := Aside0.mk ((by rw [hg]; exact Nat.ne_of_lt (bkl_ BK653.out) : gb653 ≠ gb663))
                 have n13_ := Aside0.mk ((by rw [hg]; exact Nat.ne_of_gt (bkl_ BK653.out) : gb663 ≠ gb653))
                 clear HO659
                 clear BK637
                 clear BK646
                 clear BK653
                 clear HB
                 have HO659 := n0_
                 have BK637 := n1_
                 have BK646 := n2_
                 have BK653 := n3_
                 have HB := n4_
                 have BK663 := n5_
                 have GW663 := n6_
                 have GE663 := n7_
                 have NB637_663 := n8_
                 have NB663_637 := n9_
                 have NB646_663 := n10_
                 have NB663_646 := n11_
                 have NB653_663 := n12_
                 have NB663_653 := n13_
                 clear n0_ n1_ n2_ n3_ n4_ n5_ n6_ n7_ n8_ n9_ n10_ n11_ n12_ n13_
                 clear hb hbox hg
                 refine hK.out _ _ trivial (fun hHeld => ?_)
                 clear hK K
                 refine norm_ (a' := ?_) ?_ ?_
                 rotate_left
                 ·show Act.put _ (some 13) _ = _
                  simp only [Act.put, List.setIfInBounds_toArray, List.set_cons_zero, List.set_cons_succ, i64_w, i32_w]
                  rfl
                 exact norm_ (by simp only [putAll, Act.put, List.setIfInBounds_toArray, List.set_cons_zero, List.set_cons_succ]) (hCont (.slice Ao142 t657.length co142, gb663) _ ⟨(kr_ (HO659.out)), (bk_ BK637.out), (bk_ BK646.out), (bk_ BK653.out), (bk_ BK663.out), GW663.out, GE663.out, NB637_663.out, NB663_637.out, NB646_663.out, NB663_646.out, NB653_663.out, NB663_653.out, (hb_ HB.out)⟩)
                ·skip
                 refine box_step ?hg (N := 13) ?hd (cs := #[.int .i64 0, .int .i64 0]) (t := 25) ?hr ?_; (case hd => rfl); (case hg => rfl); (case hr => first | (go_simp; done) | (go_simp; rfl))
                 intro gb663 hg w142 hbox hb
                 have n0_ := Aside0.mk (Kd.R_below (kr_ (HO659.out)) hb)
                 have n1_ := Aside0.mk (bkb_ BK637.out hb)
                 have n2_ := Aside0.mk (bkb_ BK646.out hb)
                 have n3_ := Aside0.mk (bkb_ BK653.out hb)
                 have n4_ := Aside0.mk (below_step (hb_ HB.out) hb)
                 have n5_ := Aside0.mk (hbox)
                 have n6_ := Aside0.mk ((by rw [hg]; exact (below_size (hb_ HB.out)) : w.heap.size ≤ gb663))
                 have n7_ := Aside0.mk ((by rw [hg]; exact (below_size (hb_ HB.out)) : w.heap.size ≤ gb663))
                 have n8_ := Aside0.mk ((by rw [hg]; exact Nat.ne_of_lt (bkl_ BK637.out) : gb637 ≠ gb663))
                 have n9_ := Aside0.mk ((by rw [hg]; exact Nat.ne_of_gt (bkl_ BK637.out) : gb663 ≠ gb637))
                 have n10_ := Aside0.mk ((by rw [hg]; exact Nat.ne_of_lt (bkl_ BK646.out) : gb646 ≠ gb663))
                 have n11_ := Aside0.mk ((by rw [hg]; exact Nat.ne_of_gt (bkl_ BK646.out) : gb663 ≠ gb646))
                 have n12_ := Aside0.mk ((by rw [hg]; exact Nat.ne_of_lt (bkl_ BK653.out) : gb653 ≠ gb663))
                 have n13_ := Aside0.mk ((by rw [hg]; exact Nat.ne_of_gt (bkl_ BK653.out) : gb663 ≠ gb653))
                 clear HO659
                 clear BK637
                 clear BK646
                 clear BK653
                 clear HB
                 have HO659 := n0_
                 have BK637 := n1_
                 have BK646 := n2_
                 have BK653 := n3_
                 have HB := n4_
                 have BK663 := n5_
                 have GW663 := n6_
                 have GE663 := n7_
                 have NB637_663 := n8_
                 have NB663_637 := n9_
                 have NB646_663 := n10_
                 have NB663_646 := n11_
                 have NB653_663 := n12_
                 have NB663_653 := n13_
                 clear n0_ n1_ n2_ n3_ n4_ n5_ n6_ n7_ n8_ n9_ n10_ n11_ n12_ n13_
                 clear hb hbox hg
                 obtain ⟨Ao143, co143, eo143⟩ := Kd.R_slice HO659.out
                 (first | subst eo143 | (injection eo143 with f1_ f2_ f3_; have f4_ := f1_.symm; have f5_ := f3_.symm; clear f1_ f2_ f3_; subst f4_; subst f5_))
                 refine hK.out _ _ trivial (fun hHeld => ?_)
                 clear hK K
                 refine norm_ (a' := ?_) ?_ ?_
                 rotate_left
                 ·show Act.put _ (some 13) _ = _
                  simp only [Act.put, List.setIfInBounds_toArray, List.set_cons_zero, List.set_cons_succ, i64_w, i32_w]
                  rfl
                 refine one_ (i := 6) (N := some 95) #[true, true, true, true, true, true, true, false, false, false, true, false, false] rfl rfl (one_of HT_.out (by kernel_rfl)) (by decide) (fun K hK => ?_)
                 refine goes_ Try.func46 (by kernel_rfl) rfl #[.slice Ao143 t657.length co143, .int .i64 (Go.bits .or .i64 a1 (ji83))] (by rfl) rfl rfl (by (try simp only [List.map_toArray, List.map_cons, List.map_nil]); first | done | (exact congrArg (fun z_ => #[Value.slice Ao143 t657.length co143, Value.int .i64 (Go.bits .or .i64 a1 z_)]) hji83_) | (exact congrArg (fun z_ => #[Value.slice Ao143 t657.length co143, Value.int .i64 (Go.bits .or .i64 a1 z_)]) hji83u) | (exact congrArg (fun z_ => #[Value.slice Ao143 t657.length co143, Value.int .i64 (Go.bits .or .i64 a1 z_)]) hji83y) | (simp only [hji83]; rfl) | rfl | (simp only [List.length_drop, List.length_take]; rfl)) ?_
                 with_reducible refine (packets_Pairs.calls kj23 _ _ t657 (Go.bits .or .i64 a1 (ji83)) t660 t661 t662 _ ?side1 ?side2 A84.out).mono ?_
                 (case side1 => exact kc_ (Kd.R_reads' HO659.out).2.2)
                 (case side2 => exact (Kd.R_reads' HO659.out).2.1)
                 rintro e w144 ⟨rfl, hb⟩
                 refine ⟨_, rfl, ?_⟩
                 have n0_ := Aside0.mk (Kd.R_below (kr_ (HO659.out)) hb)
                 have n1_ := Aside0.mk (bkb_ BK637.out hb)
                 have n2_ := Aside0.mk (bkb_ BK646.out hb)
                 have n3_ := Aside0.mk (bkb_ BK653.out hb)
                 have n4_ := Aside0.mk (bkb_ BK663.out hb)
                 have n5_ := Aside0.mk (below_step (hb_ HB.out) hb)
                 clear HO659
                 clear BK637
                 clear BK646
                 clear BK653
                 clear BK663
                 clear HB
                 have HO659 := n0_
                 have BK637 := n1_
                 have BK646 := n2_
                 have BK653 := n3_
                 have BK663 := n4_
                 have HB := n5_
                 clear n0_ n1_ n2_ n3_ n4_ n5_
                 (try clear hb)
                 (try clear hb2)
                 (try clear hk)
                 (try clear hi)
                 refine hK.out _ _ trivial (fun hHeld => ?_)
                 clear hK K
                 refine norm_ (a' := ?_) ?_ ?_
                 rotate_left
                 ·show Act.put _ (some 95) _ = _
                  simp only [Act.put, List.setIfInBounds_toArray, List.set_cons_zero, List.set_cons_succ, i64_w, i32_w]
                  rfl
                 refine pure_ (i := 7) (N := some 88) (v := ?_) (a' := ?_) #[true, true, true, true, true, true, true, true, false, false, true, false, false] rfl rfl (any_of HT_.out (by kernel_rfl)) (fun _ _ _ h => h) (Or.inl ⟨by rfl, ?_⟩) ?_ ?_
                 rotate_left
                 ·intro w'
                  go_simp
                  with_reducible rfl
                 rotate_left
                 ·simp only [Act.put, List.setIfInBounds_toArray, List.set_cons_zero, List.set_cons_succ, i64_w, i32_w]
                  rfl
                 refine pure_ (i := 8) (N := some 96) (v := ?_) (a' := ?_) #[true, true, true, true, true, true, true, true, true, false, true, false, false] rfl rfl (any_of HT_.out (by kernel_rfl)) (fun _ _ _ h => h) (Or.inl ⟨by rfl, ?_⟩) ?_ ?_
                 rotate_left
                 ·intro w'
                  go_simp
                  with_reducible rfl
                 rotate_left
                 ·simp only [Act.put, List.setIfInBounds_toArray, List.set_cons_zero, List.set_cons_succ, i64_w, i32_w]
                  rfl
                 refine pure_ (i := 9) (N := some 97) (v := ?_) (a' := ?_) #[true, true, true, true, true, true, true, true, true, true, true, false, false] rfl rfl (any_of HT_.out (by kernel_rfl)) (fun _ _ _ h => h) (Or.inl ⟨by rfl, ?_⟩) ?_ ?_
                 rotate_left
                 ·intro w'
                  go_simp
                  with_reducible rfl
                 rotate_left
                 ·simp only [Act.put, List.setIfInBounds_toArray, List.set_cons_zero, List.set_cons_succ, i64_w, i32_w]
                  rfl
                 exact norm_ (by simp only [putAll, Act.put, List.setIfInBounds_toArray, List.set_cons_zero, List.set_cons_succ]) (hCont (.slice Ao143 t657.length co143, gb663) _ ⟨(kr_ (HO659.out)), (bk_ BK637.out), (bk_ BK646.out), (bk_ BK653.out), (bk_ BK663.out), GW663.out, GE663.out, NB637_663.out, NB663_637.out, NB646_663.out, NB663_646.out, NB653_663.out, NB663_653.out, (hb_ HB.out)⟩)
               ·skip
                refine box_step ?hg (N := 13) ?hd (cs := #[.int .i64 0, .int .i64 0]) (t := 25) ?hr ?_; (case hd => rfl); (case hg => rfl); (case hr => first | (go_simp; done) | (go_simp; rfl))
                intro gb663 hg w141 hbox hb
                have n0_ := Aside0.mk (bkb_ BK637.out hb)
                have n1_ := Aside0.mk (bkb_ BK646.out hb)
                have n2_ := Aside0.mk (bkb_ BK653.out hb)
                have n3_ := Aside0.mk (below_step (hb_ HB.out) hb)
                have n4_ := Aside0.mk (hbox)
                have n5_ := Aside0.mk ((by rw [hg]; exact (below_size (hb_ HB.out)) : w.heap.size ≤ gb663))
                have n6_ := Aside0.mk ((by rw [hg]; exact (below_size (hb_ HB.out)) : w.heap.size ≤ gb663))
                have n7_ := Aside0.mk ((by rw [hg]; exact Nat.ne_of_lt (bkl_ BK637.out) : gb637 ≠ gb663))
                have n8_ := Aside0.mk ((by rw [hg]; exact Nat.ne_of_gt (bkl_ BK637.out) : gb663 ≠ gb637))
                have n9_ := Aside0.mk ((by rw [hg]; exact Nat.ne_of_lt (bkl_ BK646.out) : gb646 ≠ gb663))
                have n10_ := Aside0.mk ((by rw [hg]; exact Nat.ne_of_gt (bkl_ BK646.out) : gb663 ≠ gb646))
                have n11_ := Aside0.mk ((by rw [hg]; exact Nat.ne_of_lt (bkl_ BK653.out) : gb653 ≠ gb663))
                have n12_ := Aside0.mk ((by rw [hg]; exact Nat.ne_of_gt (bkl_ BK653.out) : gb663 ≠ gb653))
                clear BK637
                clear BK646
                clear BK653
                clear HB
                have BK637 := n0_
                have BK646 := n1_
                have BK653 := n2_
                have HB := n3_
                have BK663 := n4_
                have GW663 := n5_
                have GE663 := n6_
                have NB637_663 := n7_
                have NB663_637 := n8_
                have NB646_663 := n9_
                have NB663_646 := n10_
                have NB653_663 := n11_
                have NB663_653 := n12_
                clear n0_ n1_ n2_ n3_ n4_ n5_ n6_ n7_ n8_ n9_ n10_ n11_ n12_
                clear hb hbox hg
                refine hK.out _ _ trivial (fun hHeld => ?_)
                clear hK K
                refine norm_ (a' := ?_) ?_ ?_
                rotate_left
                ·show Act.put _ (some 13) _ = _
                 simp only [Act.put, List.setIfInBounds_toArray, List.set_cons_zero, List.set_cons_succ, i64_w, i32_w]
                 rfl
                refine one_ (i := 1) (N := some 90) #[true, true, true, true, true, true, false, false, false, false, true, false, false] rfl rfl (one_of HT_.out (by kernel_rfl)) (by decide) (fun K hK => ?_)
                refine goes_ Try.func22 (by kernel_rfl) rfl #[.slice A0 l0.length c0] (by rfl) rfl rfl al_ ?_
                with_reducible refine (comfitlaw04_list.calls _ _ l0 t657 _ ?side1 ?side2 A80.out).mono ?_
                (case side1 => exact kc_ (Kd.C_below HR0.out HB.out))
                (case side2 => exact HC0.out)
                rintro e w142 ⟨v658, rfl, ho0, hb⟩
                refine ⟨_, rfl, ?_⟩
                have n0_ := Aside0.mk (Kd.R_lower ho0 (below_size (hb_ HB.out)))
                have n1_ := Aside0.mk (bkb_ BK637.out hb)
                have n2_ := Aside0.mk (bkb_ BK646.out hb)
                have n3_ := Aside0.mk (bkb_ BK653.out hb)
                have n4_ := Aside0.mk (bkb_ BK663.out hb)
                have n5_ := Aside0.mk (below_step (hb_ HB.out) hb)
                clear BK637
                clear BK646
                clear BK653
                clear BK663
                clear HB
                have HO659 := n0_
                have BK637 := n1_
                have BK646 := n2_
                have BK653 := n3_
                have BK663 := n4_
                have HB := n5_
                clear n0_ n1_ n2_ n3_ n4_ n5_
                (try clear hb)
                (try clear hb2)
                (try clear hk)
                (try clear hi)
                (try clear ho0)
                obtain ⟨Ao143, co143, eo143⟩ := Kd.R_slice HO659.out
                (first | subst eo143 | (injection eo143 with f1_ f2_ f3_; have f4_ := f1_.symm; have f5_ := f3_.symm; clear f1_ f2_ f3_; subst f4_; subst f5_))
                refine hK.out _ _ trivial (fun hHeld => ?_)
                clear hK K
                refine norm_ (a' := ?_) ?_ ?_
                rotate_left
                ·show Act.put _ (some 90) _ = _
                 simp only [Act.put, List.setIfInBounds_toArray, List.set_cons_zero, List.set_cons_succ, i64_w, i32_w]
                 rfl
                refine one_ (i := 6) (N := some 95) #[true, true, true, true, true, true, true, false, false, false, true, false, false] rfl rfl (one_of HT_.out (by kernel_rfl)) (by decide) (fun K hK => ?_)
                refine goes_ Try.func46 (by kernel_rfl) rfl #[.slice Ao143 t657.length co143, .int .i64 (Go.bits .or .i64 a1 (ji83))] (by rfl) rfl rfl (by (try simp only [List.map_toArray, List.map_cons, List.map_nil]); first | done | (exact congrArg (fun z_ => #[Value.slice Ao143 t657.length co143, Value.int .i64 (Go.bits .or .i64 a1 z_)]) hji83_) | (exact congrArg (fun z_ => #[Value.slice Ao143 t657.length co143, Value.int .i64 (Go.bits .or .i64 a1 z_)]) hji83u) | (exact congrArg (fun z_ => #[Value.slice Ao143 t657.length co143, Value.int .i64 (Go.bits .or .i64 a1 z_)]) hji83y) | (simp only [hji83]; rfl) | rfl | (simp only [List.length_drop, List.length_take]; rfl)) ?_
                with_reducible refine (packets_Pairs.calls kj23 _ _ t657 (Go.bits .or .i64 a1 (ji83)) t660 t661 t662 _ ?side1 ?side2 A84.out).mono ?_
                (case side1 => exact kc_ (Kd.R_reads' HO659.out).2.2)
                (case side2 => exact (Kd.R_reads' HO659.out).2.1)
                rintro e w144 ⟨rfl, hb⟩
                refine ⟨_, rfl, ?_⟩
                have n0_ := Aside0.mk (Kd.R_below (kr_ (HO659.out)) hb)
                have n1_ := Aside0.mk (bkb_ BK637.out hb)
                have n2_ := Aside0.mk (bkb_ BK646.out hb)
                have n3_ := Aside0.mk (bkb_ BK653.out hb)
                have n4_ := Aside0.mk (bkb_ BK663.out hb)
                have n5_ := Aside0.mk (below_step (hb_ HB.out) hb)
                clear HO659
                clear BK637
                clear BK646
                clear BK653
                clear BK663
                clear HB
                have HO659 := n0_
                have BK637 := n1_
                have BK646 := n2_
                have BK653 := n3_
                have BK663 := n4_
                have HB := n5_
                clear n0_ n1_ n2_ n3_ n4_ n5_
                (try clear hb)
                (try clear hb2)
                (try clear hk)
                (try clear hi)
                refine hK.out _ _ trivial (fun hHeld => ?_)
                clear hK K
                refine norm_ (a' := ?_) ?_ ?_
                rotate_left
                ·show Act.put _ (some 95) _ = _
                 simp only [Act.put, List.setIfInBounds_toArray, List.set_cons_zero, List.set_cons_succ, i64_w, i32_w]
                 rfl
                refine pure_ (i := 7) (N := some 88) (v := ?_) (a' := ?_) #[true, true, true, true, true, true, true, true, false, false, true, false, false] rfl rfl (any_of HT_.out (by kernel_rfl)) (fun _ _ _ h => h) (Or.inl ⟨by rfl, ?_⟩) ?_ ?_
                rotate_left
                ·intro w'
                 go_simp
                 with_reducible rfl
                rotate_left
                ·simp only [Act.put, List.setIfInBounds_toArray, List.set_cons_zero, List.set_cons_succ, i64_w, i32_w]
                 rfl
                refine pure_ (i := 8) (N := some 96) (v := ?_) (a' := ?_) #[true, true, true, true, true, true, true, true, true, false, true, false, false] rfl rfl (any_of HT_.out (by kernel_rfl)) (fun _ _ _ h => h) (Or.inl ⟨by rfl, ?_⟩) ?_ ?_
                rotate_left
                ·intro w'
                 go_simp
                 with_reducible rfl
                rotate_left
                ·simp only [Act.put, List.setIfInBounds_toArray, List.set_cons_zero, List.set_cons_succ, i64_w, i32_w]
                 rfl
                refine pure_ (i := 9) (N := some 97) (v := ?_) (a' := ?_) #[true, true, true, true, true, true, true, true, true, true, true, false, false] rfl rfl (any_of HT_.out (by kernel_rfl)) (fun _ _ _ h => h) (Or.inl ⟨by rfl, ?_⟩) ?_ ?_
                rotate_left
                ·intro w'
                 go_simp
                 with_reducible rfl
                rotate_left
                ·simp only [Act.put, List.setIfInBounds_toArray, List.set_cons_zero, List.set_cons_succ, i64_w, i32_w]
                 rfl
                exact norm_ (by simp only [putAll, Act.put, List.setIfInBounds_toArray, List.set_cons_zero, List.set_cons_succ]) (hCont (.slice Ao143 t657.length co143, gb663) _ ⟨(kr_ (HO659.out)), (bk_ BK637.out), (bk_ BK646.out), (bk_ BK653.out), (bk_ BK663.out), GW663.out, GE663.out, NB637_663.out, NB663_637.out, NB646_663.out, NB663_646.out, NB653_663.out, NB663_653.out, (hb_ HB.out)⟩)
              rintro ⟨v658, gb663⟩ w145 ⟨h0_, h1_, h2_, h3_, h4_, h5_, h6_, h7_, h8_, h9_, h10_, h11_, h12_, h13_⟩
              have n0_ : Aside0 (Kd.R (Kd.int .i64) 3 w145 w.heap.size (fun _ => True) v658 t657) := ⟨h0_⟩
              have n1_ : Aside0 (w145.heap[gb637]? = some (.cells #[.int .i64 t634, .int .i64 t635] 25 (0, 0))) := ⟨h1_⟩
              have n2_ : Aside0 (w145.heap[gb646]? = some (.cells #[.int .i64 t643, .int .i64 t644] 25 (0, 0))) := ⟨h2_⟩
              have n3_ : Aside0 (w145.heap[gb653]? = some (.cells #[.int .i64 t650, .int .i64 t651] 25 (0, 0))) := ⟨h3_⟩
              have n4_ : Aside0 (w145.heap[gb663]? = some (.cells #[.int .i64 0, .int .i64 0] 25 (0, 0))) := ⟨h4_⟩
              have n5_ : Aside0 (w.heap.size ≤ gb663) := ⟨h5_⟩
              have n6_ : Aside0 (w.heap.size ≤ gb663) := ⟨h6_⟩
              have n7_ : Aside0 (gb637 ≠ gb663) := ⟨h7_⟩
              have n8_ : Aside0 (gb663 ≠ gb637) := ⟨h8_⟩
              have n9_ : Aside0 (gb646 ≠ gb663) := ⟨h9_⟩
              have n10_ : Aside0 (gb663 ≠ gb646) := ⟨h10_⟩
              have n11_ : Aside0 (gb653 ≠ gb663) := ⟨h11_⟩
              have n12_ : Aside0 (gb663 ≠ gb653) := ⟨h12_⟩
              have n13_ : Aside0 (Below w.heap.size w w145) := ⟨h13_⟩
              clear BK637
              clear BK646
              clear BK653
              clear HB
              clear h0_ h1_ h2_ h3_ h4_ h5_ h6_ h7_ h8_ h9_ h10_ h11_ h12_ h13_
              have HO659 := n0_
              have BK637 := n1_
              have BK646 := n2_
              have BK653 := n3_
              have BK663 := n4_
              have GW663 := n5_
              have GE663 := n6_
              have NB637_663 := n7_
              have NB663_637 := n8_
              have NB646_663 := n9_
              have NB663_646 := n10_
              have NB653_663 := n11_
              have NB663_653 := n12_
              have HB := n13_
              clear n0_ n1_ n2_ n3_ n4_ n5_ n6_ n7_ n8_ n9_ n10_ n11_ n12_ n13_
              have hHeld := trivial
              refine norm_ (a' := ?_) ?_ ?_
              rotate_left
              ·simp only [putAll, Act.put, List.setIfInBounds_toArray, List.set_cons_zero, List.set_cons_succ]
               rfl
              refine one_ (i := 11) (N := none) #[true, true, true, true, true, true, true, true, true, true, true, true, false] rfl rfl (one_of HT_.out (by kernel_rfl)) (by decide) (fun K hK => ?_)
              have hs146 : w145.cell? ⟨gb663, 0, none⟩ = some (.int .i64 0) := (blk_cell BK663.out 0).trans rfl
              have hfs146 := blk_frozen BK663.out 0
              have hns146_0 := NB637_663.out
              have hns146_1 := NB646_663.out
              have hns146_2 := NB653_663.out
              have hms146_0 := NB663_637.out
              have hms146_1 := NB663_646.out
              have hms146_2 := NB663_653.out
              have hs147 : w145.cell? ⟨gb663, 1, none⟩ = some (.int .i64 0) := (blk_cell BK663.out 1).trans rfl
              have hfs147 := blk_frozen BK663.out 1
              have hns147_0 := NB637_663.out
              have hns147_1 := NB646_663.out
              have hns147_2 := NB653_663.out
              have hms147_0 := NB663_637.out
              have hms147_1 := NB663_646.out
              have hms147_2 := NB663_653.out
              refine skip_ (w1 := ?_) (by rfl) rfl ?_ ?_
              rotate_left
              ·go_simp
               rfl
              refine hK.out _ _ trivial (fun hHeld => ?_)
              clear hK K
              refine pure_ (i := 12) (N := some 8) (v := ?_) (a' := ?_) #[true, true, true, true, true, true, true, true, true, true, true, true, true] rfl rfl (any_of HT_.out (by kernel_rfl)) (fun _ _ _ h => h) (Or.inl ⟨by rfl, ?_⟩) ?_ ?_
              rotate_left
              ·intro w'
               go_simp
               with_reducible rfl
              rotate_left
              ·simp only [Act.put, List.setIfInBounds_toArray, List.set_cons_zero, List.set_cons_succ, i64_w, i32_w]
               rfl
              refine done_ (done_of HT_.out (by kernel_rfl)) ?_
              have hnb148 := NB663_637.out
              have hnc148 := NB637_663.out
              have hnb149 := NB663_646.out
              have hnc149 := NB646_663.out
              have hnb150 := NB663_653.out
              have hnc150 := NB653_663.out
              have hcz151_0 : w145.cell? ⟨gb663, 0, none⟩ = some (.int .i64 0) := (blk_cell BK663.out 0).trans rfl
              have hcz151_1 : w145.cell? ⟨gb663, 1, none⟩ = some (.int .i64 0) := (blk_cell BK663.out 1).trans rfl
              have hfz151_0 := blk_frozen BK663.out 0
              have hfz151_1 := blk_frozen BK663.out 1
              try go_wp2_with (first | (go_at_call 19; (with_reducible refine (comfitlaw04_right.calls t660 t661 400 true _ A86.out).mono ?_); rintro e w152 ⟨rfl, hb⟩; have n0_ := Aside0.mk (Kd.R_below (by (with_reducible repeat (first | apply Kd.R_alloc | apply Kd.R_drewN | apply Kd.R_drew)); exact (Kd.R_mono (Kd.R_far (p := ⟨gb663, 1, none⟩) (Kd.R_far (p := ⟨gb663, 0, none⟩) (Kd.R_types HO659.out BK663.out (by decide)) (fun _ hk => hk.2) (.int .i64 t660)) (fun _ hk => hk.2) (.int .i64 t661)) (fun _ h_ => h_.1))) hb); have n1_ := Aside0.mk (blk_below (g := gb637) (o := .cells #[.int .i64 t634, .int .i64 t635] 25 (0, 0)) (by (with_reducible repeat (first | refine blk_drewN ?_ _ | refine blk_drew ?_ | refine blk_alloc ?_ _)); refine blk_far ?_ NB637_663.out _; (with_reducible repeat (first | refine blk_drewN ?_ _ | refine blk_drew ?_ | refine blk_alloc ?_ _)); refine blk_far ?_ NB637_663.out _; (with_reducible repeat (first | refine blk_drewN ?_ _ | refine blk_drew ?_ | refine blk_alloc ?_ _)); exact BK637.out) hb); have n2_ := Aside0.mk (blk_below (g := gb646) (o := .cells #[.int .i64 t643, .int .i64 t644] 25 (0, 0)) (by (with_reducible repeat (first | refine blk_drewN ?_ _ | refine blk_drew ?_ | refine blk_alloc ?_ _)); refine blk_far ?_ NB646_663.out _; (with_reducible repeat (first | refine blk_drewN ?_ _ | refine blk_drew ?_ | refine blk_alloc ?_ _)); refine blk_far ?_ NB646_663.out _; (with_reducible repeat (first | refine blk_drewN ?_ _ | refine blk_drew ?_ | refine blk_alloc ?_ _)); exact BK646.out) hb); have n3_ := Aside0.mk (blk_below (g := gb653) (o := .cells #[.int .i64 t650, .int .i64 t651] 25 (0, 0)) (by (with_reducible repeat (first | refine blk_drewN ?_ _ | refine blk_drew ?_ | refine blk_alloc ?_ _)); refine blk_far ?_ NB653_663.out _; (with_reducible repeat (first | refine blk_drewN ?_ _ | refine blk_drew ?_ | refine blk_alloc ?_ _)); refine blk_far ?_ NB653_663.out _; (with_reducible repeat (first | refine blk_drewN ?_ _ | refine blk_drew ?_ | refine blk_alloc ?_ _)); exact BK653.out) hb); have n4_ := Aside0.mk (blk_below (g := gb663) (o := .cells #[.int .i64 t660, .int .i64 t661] 25 (0, 0)) (by (with_reducible repeat (first | refine blk_drewN ?_ _ | refine blk_drew ?_ | refine blk_alloc ?_ _)); refine blk_put (cs := #[.int .i64 t660, .int .i64 0]) ?_ 1 _ rfl; (with_reducible repeat (first | refine blk_drewN ?_ _ | refine blk_drew ?_ | refine blk_alloc ?_ _)); refine blk_put (cs := #[.int .i64 0, .int .i64 0]) ?_ 0 _ rfl; (with_reducible repeat (first | refine blk_drewN ?_ _ | refine blk_drew ?_ | refine blk_alloc ?_ _)); exact BK663.out) hb); have n5_ := Aside0.mk (below_step (hb_ HB.out) hb); clear HO659; clear BK637; clear BK646; clear BK653; clear BK663; clear HB; have HO659 := n0_; have BK637 := n1_; have BK646 := n2_; have BK653 := n3_; have BK663 := n4_; have HB := n5_; clear n0_ n1_ n2_ n3_ n4_ n5_; (try clear hb); (try clear hb2); (try clear hk); (try clear hi); have hnb153 := NB637_646.out; have hnc153 := NB646_637.out; have hnb154 := NB637_653.out; have hnc154 := NB653_637.out; have hcz155_0 : w152.cell? ⟨gb637, 0, none⟩ = some (.int .i64 t634) := (blk_cell BK637.out 0).trans rfl; have hcz155_1 : w152.cell? ⟨gb637, 1, none⟩ = some (.int .i64 t635) := (blk_cell BK637.out 1).trans rfl; have hfz155_0 := blk_frozen BK637.out 0; have hfz155_1 := blk_frozen BK637.out 1; have hcz156_0 : w152.cell? ⟨gb663, 0, none⟩ = some (.int .i64 t660) := (blk_cell BK663.out 0).trans rfl; have hcz156_1 : w152.cell? ⟨gb663, 1, none⟩ = some (.int .i64 t661) := (blk_cell BK663.out 1).trans rfl; have hfz156_0 := blk_frozen BK663.out 0; have hfz156_1 := blk_frozen BK663.out 1) | (go_at_call 23; (with_reducible refine (comfitref04_Less.calls kj23 t634 t635 t660 t661 true _ A137.out).mono ?_); rintro e w157 ⟨rfl, hb⟩; have n0_ := Aside0.mk (Kd.R_below (kr_ (HO659.out)) hb); have n1_ := Aside0.mk (bkb_ BK637.out hb); have n2_ := Aside0.mk (bkb_ BK646.out hb); have n3_ := Aside0.mk (bkb_ BK653.out hb); have n4_ := Aside0.mk (bkb_ BK663.out hb); have n5_ := Aside0.mk (below_step (hb_ HB.out) hb); clear HO659; clear BK637; clear BK646; clear BK653; clear BK663; clear HB; have HO659 := n0_; have BK637 := n1_; have BK646 := n2_; have BK653 := n3_; have BK663 := n4_; have HB := n5_; clear n0_ n1_ n2_ n3_ n4_ n5_; (try clear hb); (try clear hb2); (try clear hk); (try clear hi)) | (go_at_call 20; (with_reducible refine (comfitlaw04_awake.calls kj23  t669 _ A139.out).mono ?_); rintro e w158 ⟨rfl, hb⟩; have n0_ := Aside0.mk (Kd.R_below (kr_ (HO659.out)) hb); have n1_ := Aside0.mk (bkb_ BK637.out hb); have n2_ := Aside0.mk (bkb_ BK646.out hb); have n3_ := Aside0.mk (bkb_ BK653.out hb); have n4_ := Aside0.mk (bkb_ BK663.out hb); have n5_ := Aside0.mk (below_step (hb_ HB.out) hb); clear HO659; clear BK637; clear BK646; clear BK653; clear BK663; clear HB; have HO659 := n0_; have BK637 := n1_; have BK646 := n2_; have BK653 := n3_; have BK663 := n4_; have HB := n5_; clear n0_ n1_ n2_ n3_ n4_ n5_; (try clear hb); (try clear hb2); (try clear hk); (try clear hi)))
              go_ret
              exact ⟨by first | rfl | (simp [errW_none, errW_some] <;> rfl) | (simp only [← hji22, ← hji81, ← hji83, ← hji89]; first | rfl | (simp [errW_none, errW_some] <;> rfl)) | (simp [*, errW_none, errW_some] <;> rfl), by repeat (first | (with_reducible first | exact HB.out | apply below_alloc | apply pw_below_drewN | apply below_drew1 | refine below_set ?_ GE637.out | refine below_set ?_ GE646.out | refine below_set ?_ GE653.out | refine below_set ?_ GE663.out) | exact HB.out)⟩
             ·replace c138 := Bool.eq_false_iff.mpr c138
              subst c138
              have H1 : (none) = some r := by rw [if_neg (show ¬ (false = true) by decide)] at H; exact H
              clear H
              have H := H1
              clear H1
              exact absurd H (by simp)
            ·rw [if_neg c136] at H
             exact absurd H (by simp)
          ·replace c87 := Bool.eq_false_iff.mpr c87
           subst c87
           have H1 : (none) = some r := by rw [if_neg (show ¬ (false = true) by decide)] at H; exact H
           clear H
           have H := H1
           clear H1
           exact absurd H (by simp)
         ·rw [if_neg c85] at H
          exact absurd H (by simp)
        ·rw [if_neg c82] at H
         exact absurd H (by simp)

/-- THE ONE PURE STATEMENT of comfitlaw04_PacketsTwice: yours. -/
def comfitlaw04_PacketsTwice.Pure : Prop := ∀ (l0 : List Int) (a1 : Int) (a2 : Int), l0.length ≤ maxLen → l0.length * 8 ≤ 140737488351232 → (∀ x ∈ l0, (Lit.int .i64 x).wf = true) → (Lit.int .i64 a1).wf = true → (Lit.int .i64 a2).wf = true → ∃ k, comfitlaw04_PacketsTwice.f k l0 a1 a2 = some true
theorem comfitlaw04_PacketsTwice.walk (P : comfitlaw04_PacketsTwice.Pure) (a0 : Option Addr) (len0 cap0 : Nat) (z0 : List Int) (a1 : Int) (a2 : Int) (w : World) (w0 : (a0 = none ∧ len0 = 0 ∧ cap0 = 0 ∧ z0 = []) ∨ ∃ x, a0 = some x ∧ len0 ≤ cap0 ∧ cap0 ≤ maxLen ∧ z0.length = cap0 ∧ (∀ i, i < z0.length → w.cell? (x.add i) = some (.int .i64 (z0.getD i 0))) ∧ ∀ n ∈ z0, (Lit.int .i64 n).wf = true) (y0 : len0 * 8 ≤ 140737488351232) (w1 : (Lit.int .i64 a1).wf = true) (w2 : (Lit.int .i64 a2).wf = true) :
  Calls Try.prog 15 #[.slice a0 len0 cap0, .int .i64 a1, .int .i64 a2] w fun e w' => e = .returned (.bool true) ∧ Below w.heap.size w w' := by
 obtain ⟨l0, rfl, hr0, hm0, hw0, hc0⟩ := ReadsInt.ofRowC w0
 obtain ⟨k, h⟩ := P l0 a1 a2 hm0 y0 hw0 w1 w2
 refine (comfitlaw04_PacketsTwice.calls k _ _ l0 a1 a2 true w (Kd.C_of_reads (d := (0 : Int)) (h1 := fun _ => rfl) hr0) hc0 h).mono ?_
 rintro e w' ⟨rfl, hd⟩
 exact ⟨rfl, hd⟩

end Go.Proofs.Ytigmhomfadimnaa.X
