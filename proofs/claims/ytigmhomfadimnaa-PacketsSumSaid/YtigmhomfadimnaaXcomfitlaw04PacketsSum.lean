/- Written by a program of this session (wip/tools/xprint.py, which calls the kit's print): Go functions as Lean functions, and for each the proof that the machine's call does what it says; no conditions but those that each theorem names. -/
import Derived.Test.YtigmhomfadimnaaX0
import Derived.Test.YtigmhomfadimnaaXEq
import Derived.Test.YtigmhomfadimnaaXL
import Derived.Test.YtigmhomfadimnaaXLA
import Derived.Test.YtigmhomfadimnaaXS
import Derived.Test.YtigmhomfadimnaaXcomfitlaw04awake
import Derived.Test.YtigmhomfadimnaaXcomfitlaw04list
import Derived.Test.YtigmhomfadimnaaXpacketsDone
import Derived.Test.YtigmhomfadimnaaHExact
import Derived.Test.YtigmhomfadimnaaHLast
namespace Go.Proofs.Ytigmhomfadimnaa.X
open Go.RowKit Go.Proofs.YtigmhomfadimnaaW.PrintWords Go.Proofs.YtigmhomfadimnaaW.PrintLast Go.Proofs.YtigmhomfadimnaaW.PrintMore
attribute [local go_sem] max2_int min2_int max_two min_two max_three min_three max_four min_four   -- for this text's walks alone
set_option linter.unusedVariables false
set_option linter.unusedSimpArgs false

attribute [local go_sem high] eqA25

theorem bk_ {P Q : Prop} (h : P) (hq : P → Q := by intro h_; (with_reducible repeat (first | refine blk_drewN ?_ _ | refine blk_drew ?_ | refine blk_alloc ?_ _)); exact h_) : Q := hq h
theorem bkb_ {w0 w w' : World} {g : Nat} {o : Obj} (h : w0.heap[g]? = some o) (hb : Below w.heap.size w w') (hq : w0.heap[g]? = some o → w.heap[g]? = some o := by intro h_; (with_reducible repeat (first | refine blk_drewN ?_ _ | refine blk_drew ?_ | refine blk_alloc ?_ _)); exact h_) : w'.heap[g]? = some o := blk_below (hq h) hb
theorem bkl_ {w0 w : World} {g : Nat} {o : Obj} (h : w0.heap[g]? = some o) (hq : w0.heap[g]? = some o → w.heap[g]? = some o := by intro h_; (with_reducible repeat (first | refine blk_drewN ?_ _ | refine blk_drew ?_ | refine blk_alloc ?_ _)); exact h_) : g < w.heap.size := blk_lt (hq h)
theorem hb_ {P Q : Prop} (h : P) (hq : P → Q := by intro h_; repeat (first | (with_reducible first | exact h_ | apply below_alloc | apply pw_below_drewN | apply below_drew1) | (refine below_set ?_ (Aside0.out (by assumption))) | exact h_)) : Q := hq h
theorem kr_ {P Q : Prop} (h : P) (hq : P → Q := by intro h_; (with_reducible repeat (first | apply Kd.R_alloc | apply Kd.R_drewN | apply Kd.R_drew)); exact h_) : Q := hq h
theorem kc_ {P Q : Prop} (h : P) (hq : P → Q := by intro h_; repeat (first | exact h_ | (with_reducible refine Kd.C_alloc ?_ _) | (with_reducible refine Kd.C_drewN ?_ _) | (with_reducible refine Kd.C_drew ?_))) : Q := hq h
theorem al_ {P : Prop} (h : P := by (try simp only [List.map_toArray, List.map_cons, List.map_nil]); first | done | rfl | (simp only [List.length_drop, List.length_take]; rfl)) : P := h

/-! ### comfitlaw04_PacketsSum: function 16 -/
mutual
def comfitlaw04_PacketsSum.j0 : Nat → List Int → Int → Int → Bool → Option (Bool)
 | 0, _, _, _, _ => none
 | k + 1, x0, x1, x2, x34 => if x34 = true then ((comfitlaw04_list.f x0).bind fun t627 => ((packets_Done.f k t627 x1 x2).bind fun bt630 => (if bt630.2.2 = 2 then ((comfitlaw04_awake.f k).bind fun t634 => (some t634)) else (some false)))) else (comfitlaw04_PacketsSum.l0 k x0 x1 x2 (x0.length : Int) 0 0 1 0 1 0 1)
def comfitlaw04_PacketsSum.l0 : Nat → List Int → Int → Int → Int → Int → Int → Int → Int → Int → Int → Int → Option (Bool)
 | 0, _, _, _, _, _, _, _, _, _, _, _ => none
 | k + 1, x0, x1, x2, x52, x53, x636000, x636001, x637000, x637001, x638000, x638001 => if x53 < x52 then (if 0 ≤ x53 then (if (Go.bits .and .i64 (shr .i64 x1 x53) 1) = 0 then (comfitlaw04_PacketsSum.l0 k x0 x1 x2 x52 (wrap64 (x53 + 1)) x636000 x636001 x637000 x637001 x638000 x638001) else ((comfitlaw04_list.f x0).bind fun t638 => ((packets_Last.f k t638 x1 x53).bind fun bt641 => (if bt641.2.2 = 0 then ((comfitlaw04_right.f bt641.1 bt641.2.1 1).bind fun t645 => (comfitlaw04_PacketsSum.j2 k x0 x1 x2 x52 x53 (!t645) x636000 x636001 x637000 x637001 x638000 x638001 bt641.1 bt641.2.1)) else (comfitlaw04_PacketsSum.j2 k x0 x1 x2 x52 x53 true x636000 x636001 x637000 x637001 x638000 x638001 bt641.1 bt641.2.1))))) else (none)) else (comfitlaw04_PacketsSum.l1 k x0 x1 x2 (shl .i64 1 (x0.length : Int)) 0 x636000 x636001 x637000 x637001 x638000 x638001)
def comfitlaw04_PacketsSum.j2 : Nat → List Int → Int → Int → Int → Int → Bool → Int → Int → Int → Int → Int → Int → Int → Int → Option (Bool)
 | 0, _, _, _, _, _, _, _, _, _, _, _, _, _, _ => none
 | k + 1, x0, x1, x2, x52, x53, x75, x636000, x636001, x637000, x637001, x638000, x638001, x645000, x645001 => if x75 = true then (some false) else ((comfitlaw04_added.f k x636000 x636001 x645000 x645001 false).bind fun bt646 => (if bt646.2.2 = true then (comfitlaw04_PacketsSum.l0 k x0 x1 x2 x52 (wrap64 (x53 + 1)) bt646.1 bt646.2.1 x637000 x637001 x638000 x638001) else (some false)))
def comfitlaw04_PacketsSum.l1 : Nat → List Int → Int → Int → Int → Int → Int → Int → Int → Int → Int → Int → Option (Bool)
 | 0, _, _, _, _, _, _, _, _, _, _, _ => none
 | k + 1, x0, x1, x2, x87, x88, x636000, x636001, x637000, x637001, x638000, x638001 => if x88 < x87 then ((comfitlaw04_list.f x0).bind fun t649 => ((packets_Exact.f k t649 x88 x2).bind fun bt652 => (if bt652.2.2 = 0 then ((comfitlaw04_right.f bt652.1 bt652.2.1 1).bind fun t656 => (comfitlaw04_PacketsSum.j4 k x0 x1 x2 x88 x87 x88 (!t656) x636000 x636001 x637000 x637001 x638000 x638001 bt652.1 bt652.2.1)) else (comfitlaw04_PacketsSum.j4 k x0 x1 x2 x88 x87 x88 true x636000 x636001 x637000 x637001 x638000 x638001 bt652.1 bt652.2.1)))) else ((comfitlaw04_list.f x0).bind fun t663 => ((packets_Done.f k t663 x1 x2).bind fun bt666 => (if bt666.2.2 = 0 then (if (bt666.1 == x637000 && (bt666.2.1 == x637001)) = true then (if (x638000 == 1 && (x638001 == 1)) = true then (if x1 = 0 then ((comfitlaw04_awake.f k).bind fun t671 => (some t671)) else (if (x636000 == 1 && (x636001 == 1)) = true then ((comfitlaw04_awake.f k).bind fun t672 => (some t672)) else (some false))) else (some false)) else (some false)) else (some false))))
def comfitlaw04_PacketsSum.j4 : Nat → List Int → Int → Int → Int → Int → Int → Bool → Int → Int → Int → Int → Int → Int → Int → Int → Option (Bool)
 | 0, _, _, _, _, _, _, _, _, _, _, _, _, _, _, _ => none
 | k + 1, x0, x1, x2, x16, x87, x88, x105, x636000, x636001, x637000, x637001, x638000, x638001, x656000, x656001 => if x105 = true then (some false) else ((comfitlaw04_added.f k x638000 x638001 x656000 x656001 false).bind fun bt657 => (if bt657.2.2 = true then (if (Go.bits .and .i64 x16 x1) = x1 then ((comfitlaw04_added.f k x637000 x637001 x656000 x656001 false).bind fun bt660 => (if bt660.2.2 = true then (comfitlaw04_PacketsSum.l1 k x0 x1 x2 x87 (wrap64 (x88 + 1)) x636000 x636001 bt660.1 bt660.2.1 bt657.1 bt657.2.1) else (some false))) else (comfitlaw04_PacketsSum.l1 k x0 x1 x2 x87 (wrap64 (x88 + 1)) x636000 x636001 x637000 x637001 bt657.1 bt657.2.1)) else (some false)))
end
def comfitlaw04_PacketsSum.f (k : Nat) (l0 : List Int) (a1 : Int) (a2 : Int) : Option (Bool) := (comfitref04_Set.f k l0 a1).bind fun t626 => (if t626 = true then (if a2 < 0 then (comfitlaw04_PacketsSum.j0 k l0 a1 a2 true) else (comfitlaw04_PacketsSum.j0 k l0 a1 a2 (decide (a2 > 8)))) else (comfitlaw04_PacketsSum.j0 k l0 a1 a2 true))
theorem comfitlaw04_PacketsSum.mono_l : ∀ k, (∀ y0 y1 y2 y3, LeO (comfitlaw04_PacketsSum.j0 k y0 y1 y2 y3) (comfitlaw04_PacketsSum.j0 (k + 1) y0 y1 y2 y3)) ∧ (∀ y0 y1 y2 y3 y4 y5 y6 y7 y8 y9 y10, LeO (comfitlaw04_PacketsSum.l0 k y0 y1 y2 y3 y4 y5 y6 y7 y8 y9 y10) (comfitlaw04_PacketsSum.l0 (k + 1) y0 y1 y2 y3 y4 y5 y6 y7 y8 y9 y10)) ∧ (∀ y0 y1 y2 y3 y4 y5 y6 y7 y8 y9 y10 y11 y12 y13, LeO (comfitlaw04_PacketsSum.j2 k y0 y1 y2 y3 y4 y5 y6 y7 y8 y9 y10 y11 y12 y13) (comfitlaw04_PacketsSum.j2 (k + 1) y0 y1 y2 y3 y4 y5 y6 y7 y8 y9 y10 y11 y12 y13)) ∧ (∀ y0 y1 y2 y3 y4 y5 y6 y7 y8 y9 y10, LeO (comfitlaw04_PacketsSum.l1 k y0 y1 y2 y3 y4 y5 y6 y7 y8 y9 y10) (comfitlaw04_PacketsSum.l1 (k + 1) y0 y1 y2 y3 y4 y5 y6 y7 y8 y9 y10)) ∧ (∀ y0 y1 y2 y3 y4 y5 y6 y7 y8 y9 y10 y11 y12 y13 y14, LeO (comfitlaw04_PacketsSum.j4 k y0 y1 y2 y3 y4 y5 y6 y7 y8 y9 y10 y11 y12 y13 y14) (comfitlaw04_PacketsSum.j4 (k + 1) y0 y1 y2 y3 y4 y5 y6 y7 y8 y9 y10 y11 y12 y13 y14))
 | 0 => ⟨fun _ _ _ _ r h => by simp [comfitlaw04_PacketsSum.j0] at h, fun _ _ _ _ _ _ _ _ _ _ _ r h => by simp [comfitlaw04_PacketsSum.l0] at h, fun _ _ _ _ _ _ _ _ _ _ _ _ _ _ r h => by simp [comfitlaw04_PacketsSum.j2] at h, fun _ _ _ _ _ _ _ _ _ _ _ r h => by simp [comfitlaw04_PacketsSum.l1] at h, fun _ _ _ _ _ _ _ _ _ _ _ _ _ _ _ r h => by simp [comfitlaw04_PacketsSum.j4] at h⟩
 | k + 1 => by
  obtain ⟨ih0, ih1, ih2, ih3, ih4⟩ := comfitlaw04_PacketsSum.mono_l k
  refine ⟨?_, ?_, ?_, ?_, ?_⟩
  ·intro y0 y1 y2 y3
   unfold comfitlaw04_PacketsSum.j0
   repeat' first
   | (with_reducible exact ih0 _ _ _ _)
   | (with_reducible exact ih1 _ _ _ _ _ _ _ _ _ _ _)
   | (with_reducible exact ih2 _ _ _ _ _ _ _ _ _ _ _ _ _ _)
   | (with_reducible exact ih3 _ _ _ _ _ _ _ _ _ _ _)
   | (with_reducible exact ih4 _ _ _ _ _ _ _ _ _ _ _ _ _ _ _)
   | (with_reducible exact comfitlaw04_added.mono _ _ _ _ _ _)
   | (with_reducible exact comfitlaw04_awake.mono _)
   | (with_reducible exact comfitref04_Set.mono _ _ _)
   | (with_reducible exact packets_Done.mono _ _ _ _)
   | (with_reducible exact packets_Exact.mono _ _ _ _)
   | (with_reducible exact packets_Last.mono _ _ _ _)
   | (with_reducible exact LeO.refl _)
   | (with_reducible exact LeO.none _)
   | (with_reducible refine LeO.ite ?_ ?_)
   | (with_reducible refine LeO.bind ?_ (fun _ => ?_))
   | exact ih0 _ _ _ _
   | exact ih1 _ _ _ _ _ _ _ _ _ _ _
   | exact ih2 _ _ _ _ _ _ _ _ _ _ _ _ _ _
   | exact ih3 _ _ _ _ _ _ _ _ _ _ _
   | exact ih4 _ _ _ _ _ _ _ _ _ _ _ _ _ _ _
   | exact comfitlaw04_added.mono _ _ _ _ _ _
   | exact comfitlaw04_awake.mono _
   | exact comfitref04_Set.mono _ _ _
   | exact packets_Done.mono _ _ _ _
   | exact packets_Exact.mono _ _ _ _
   | exact packets_Last.mono _ _ _ _
   | exact LeO.none _
   | refine LeO.ite ?_ ?_
   | refine LeO.bind ?_ (fun _ => ?_)
  ·intro y0 y1 y2 y3 y4 y5 y6 y7 y8 y9 y10
   unfold comfitlaw04_PacketsSum.l0
   repeat' first
   | (with_reducible exact ih0 _ _ _ _)
   | (with_reducible exact ih1 _ _ _ _ _ _ _ _ _ _ _)
   | (with_reducible exact ih2 _ _ _ _ _ _ _ _ _ _ _ _ _ _)
   | (with_reducible exact ih3 _ _ _ _ _ _ _ _ _ _ _)
   | (with_reducible exact ih4 _ _ _ _ _ _ _ _ _ _ _ _ _ _ _)
   | (with_reducible exact comfitlaw04_added.mono _ _ _ _ _ _)
   | (with_reducible exact comfitlaw04_awake.mono _)
   | (with_reducible exact comfitref04_Set.mono _ _ _)
   | (with_reducible exact packets_Done.mono _ _ _ _)
   | (with_reducible exact packets_Exact.mono _ _ _ _)
   | (with_reducible exact packets_Last.mono _ _ _ _)
   | (with_reducible exact LeO.refl _)
   | (with_reducible exact LeO.none _)
   | (with_reducible refine LeO.ite ?_ ?_)
   | (with_reducible refine LeO.bind ?_ (fun _ => ?_))
   | exact ih0 _ _ _ _
   | exact ih1 _ _ _ _ _ _ _ _ _ _ _
   | exact ih2 _ _ _ _ _ _ _ _ _ _ _ _ _ _
   | exact ih3 _ _ _ _ _ _ _ _ _ _ _
   | exact ih4 _ _ _ _ _ _ _ _ _ _ _ _ _ _ _
   | exact comfitlaw04_added.mono _ _ _ _ _ _
   | exact comfitlaw04_awake.mono _
   | exact comfitref04_Set.mono _ _ _
   | exact packets_Done.mono _ _ _ _
   | exact packets_Exact.mono _ _ _ _
   | exact packets_Last.mono _ _ _ _
   | exact LeO.none _
   | refine LeO.ite ?_ ?_
   | refine LeO.bind ?_ (fun _ => ?_)
  ·intro y0 y1 y2 y3 y4 y5 y6 y7 y8 y9 y10 y11 y12 y13
   unfold comfitlaw04_PacketsSum.j2
   repeat' first
   | (with_reducible exact ih0 _ _ _ _)
   | (with_reducible exact ih1 _ _ _ _ _ _ _ _ _ _ _)
   | (with_reducible exact ih2 _ _ _ _ _ _ _ _ _ _ _ _ _ _)
   | (with_reducible exact ih3 _ _ _ _ _ _ _ _ _ _ _)
   | (with_reducible exact ih4 _ _ _ _ _ _ _ _ _ _ _ _ _ _ _)
   | (with_reducible exact comfitlaw04_added.mono _ _ _ _ _ _)
   | (with_reducible exact comfitlaw04_awake.mono _)
   | (with_reducible exact comfitref04_Set.mono _ _ _)
   | (with_reducible exact packets_Done.mono _ _ _ _)
   | (with_reducible exact packets_Exact.mono _ _ _ _)
   | (with_reducible exact packets_Last.mono _ _ _ _)
   | (with_reducible exact LeO.refl _)
   | (with_reducible exact LeO.none _)
   | (with_reducible refine LeO.ite ?_ ?_)
   | (with_reducible refine LeO.bind ?_ (fun _ => ?_))
   | exact ih0 _ _ _ _
   | exact ih1 _ _ _ _ _ _ _ _ _ _ _
   | exact ih2 _ _ _ _ _ _ _ _ _ _ _ _ _ _
   | exact ih3 _ _ _ _ _ _ _ _ _ _ _
   | exact ih4 _ _ _ _ _ _ _ _ _ _ _ _ _ _ _
   | exact comfitlaw04_added.mono _ _ _ _ _ _
   | exact comfitlaw04_awake.mono _
   | exact comfitref04_Set.mono _ _ _
   | exact packets_Done.mono _ _ _ _
   | exact packets_Exact.mono _ _ _ _
   | exact packets_Last.mono _ _ _ _
   | exact LeO.none _
   | refine LeO.ite ?_ ?_
   | refine LeO.bind ?_ (fun _ => ?_)
  ·intro y0 y1 y2 y3 y4 y5 y6 y7 y8 y9 y10
   unfold comfitlaw04_PacketsSum.l1
   repeat' first
   | (with_reducible exact ih0 _ _ _ _)
   | (with_reducible exact ih1 _ _ _ _ _ _ _ _ _ _ _)
   | (with_reducible exact ih2 _ _ _ _ _ _ _ _ _ _ _ _ _ _)
   | (with_reducible exact ih3 _ _ _ _ _ _ _ _ _ _ _)
   | (with_reducible exact ih4 _ _ _ _ _ _ _ _ _ _ _ _ _ _ _)
   | (with_reducible exact comfitlaw04_added.mono _ _ _ _ _ _)
   | (with_reducible exact comfitlaw04_awake.mono _)
   | (with_reducible exact comfitref04_Set.mono _ _ _)
   | (with_reducible exact packets_Done.mono _ _ _ _)
   | (with_reducible exact packets_Exact.mono _ _ _ _)
   | (with_reducible exact packets_Last.mono _ _ _ _)
   | (with_reducible exact LeO.refl _)
   | (with_reducible exact LeO.none _)
   | (with_reducible refine LeO.ite ?_ ?_)
   | (with_reducible refine LeO.bind ?_ (fun _ => ?_))
   | exact ih0 _ _ _ _
   | exact ih1 _ _ _ _ _ _ _ _ _ _ _
   | exact ih2 _ _ _ _ _ _ _ _ _ _ _ _ _ _
   | exact ih3 _ _ _ _ _ _ _ _ _ _ _
   | exact ih4 _ _ _ _ _ _ _ _ _ _ _ _ _ _ _
   | exact comfitlaw04_added.mono _ _ _ _ _ _
   | exact comfitlaw04_awake.mono _
   | exact comfitref04_Set.mono _ _ _
   | exact packets_Done.mono _ _ _ _
   | exact packets_Exact.mono _ _ _ _
   | exact packets_Last.mono _ _ _ _
   | exact LeO.none _
   | refine LeO.ite ?_ ?_
   | refine LeO.bind ?_ (fun _ => ?_)
  ·intro y0 y1 y2 y3 y4 y5 y6 y7 y8 y9 y10 y11 y12 y13 y14
   unfold comfitlaw04_PacketsSum.j4
   repeat' first
   | (with_reducible exact ih0 _ _ _ _)
   | (with_reducible exact ih1 _ _ _ _ _ _ _ _ _ _ _)
   | (with_reducible exact ih2 _ _ _ _ _ _ _ _ _ _ _ _ _ _)
   | (with_reducible exact ih3 _ _ _ _ _ _ _ _ _ _ _)
   | (with_reducible exact ih4 _ _ _ _ _ _ _ _ _ _ _ _ _ _ _)
   | (with_reducible exact comfitlaw04_added.mono _ _ _ _ _ _)
   | (with_reducible exact comfitlaw04_awake.mono _)
   | (with_reducible exact comfitref04_Set.mono _ _ _)
   | (with_reducible exact packets_Done.mono _ _ _ _)
   | (with_reducible exact packets_Exact.mono _ _ _ _)
   | (with_reducible exact packets_Last.mono _ _ _ _)
   | (with_reducible exact LeO.refl _)
   | (with_reducible exact LeO.none _)
   | (with_reducible refine LeO.ite ?_ ?_)
   | (with_reducible refine LeO.bind ?_ (fun _ => ?_))
   | exact ih0 _ _ _ _
   | exact ih1 _ _ _ _ _ _ _ _ _ _ _
   | exact ih2 _ _ _ _ _ _ _ _ _ _ _ _ _ _
   | exact ih3 _ _ _ _ _ _ _ _ _ _ _
   | exact ih4 _ _ _ _ _ _ _ _ _ _ _ _ _ _ _
   | exact comfitlaw04_added.mono _ _ _ _ _ _
   | exact comfitlaw04_awake.mono _
   | exact comfitref04_Set.mono _ _ _
   | exact packets_Done.mono _ _ _ _
   | exact packets_Exact.mono _ _ _ _
   | exact packets_Last.mono _ _ _ _
   | exact LeO.none _
   | refine LeO.ite ?_ ?_
   | refine LeO.bind ?_ (fun _ => ?_)
theorem comfitlaw04_PacketsSum.mono : ∀ a0 a1 a2 k, LeO (comfitlaw04_PacketsSum.f k a0 a1 a2) (comfitlaw04_PacketsSum.f (k + 1) a0 a1 a2) := by
 intro a0 a1 a2 k
 obtain ⟨ih0, ih1, ih2, ih3, ih4⟩ := comfitlaw04_PacketsSum.mono_l k
 unfold comfitlaw04_PacketsSum.f
 repeat' first
   | (with_reducible exact ih0 _ _ _ _)
   | (with_reducible exact ih1 _ _ _ _ _ _ _ _ _ _ _)
   | (with_reducible exact ih2 _ _ _ _ _ _ _ _ _ _ _ _ _ _)
   | (with_reducible exact ih3 _ _ _ _ _ _ _ _ _ _ _)
   | (with_reducible exact ih4 _ _ _ _ _ _ _ _ _ _ _ _ _ _ _)
   | (with_reducible exact comfitlaw04_added.mono _ _ _ _ _ _)
   | (with_reducible exact comfitlaw04_awake.mono _)
   | (with_reducible exact comfitref04_Set.mono _ _ _)
   | (with_reducible exact packets_Done.mono _ _ _ _)
   | (with_reducible exact packets_Exact.mono _ _ _ _)
   | (with_reducible exact packets_Last.mono _ _ _ _)
   | (with_reducible exact LeO.refl _)
   | (with_reducible exact LeO.none _)
   | (with_reducible refine LeO.ite ?_ ?_)
   | (with_reducible refine LeO.bind ?_ (fun _ => ?_))
   | exact ih0 _ _ _ _
   | exact ih1 _ _ _ _ _ _ _ _ _ _ _
   | exact ih2 _ _ _ _ _ _ _ _ _ _ _ _ _ _
   | exact ih3 _ _ _ _ _ _ _ _ _ _ _
   | exact ih4 _ _ _ _ _ _ _ _ _ _ _ _ _ _ _
   | exact comfitlaw04_added.mono _ _ _ _ _ _
   | exact comfitlaw04_awake.mono _
   | exact comfitref04_Set.mono _ _ _
   | exact packets_Done.mono _ _ _ _
   | exact packets_Exact.mono _ _ _ _
   | exact packets_Last.mono _ _ _ _
   | exact LeO.none _
   | refine LeO.ite ?_ ?_
   | refine LeO.bind ?_ (fun _ => ?_)
set_option maxHeartbeats 8000000 in
set_option maxRecDepth 100000 in
theorem comfitlaw04_PacketsSum.calls (k : Nat) (A0 : Option Addr) (c0 : Nat) (l0 : List Int) (a1 : Int) (a2 : Int) (r : Bool) (w : World) (hr0 : Kd.C (Kd.int .i64) w A0 l0.length l0) (hc0 : l0.length ≤ c0) (h : comfitlaw04_PacketsSum.f k l0 a1 a2 = some r) :
  Calls Try.prog 16 #[.slice A0 l0.length c0, .int .i64 a1, .int .i64 a2] w fun e w' => e = .returned (.bool r) ∧ Below w.heap.size w w' := by
 have hu25 := Try.underlying25
 have HR0 := Aside0.mk hr0
 have HC0 := Aside0.mk hc0
 clear hr0 hc0
 have HB := Aside0.mk (Below.refl w.heap.size w)
 have H : ((comfitref04_Set.f k l0 a1).bind fun t626 => (if t626 = true then (if a2 < 0 then (comfitlaw04_PacketsSum.j0 k l0 a1 a2 true) else (comfitlaw04_PacketsSum.j0 k l0 a1 a2 (decide (a2 > 8)))) else (comfitlaw04_PacketsSum.j0 k l0 a1 a2 true))) = some r := h
 clear h
 have HC4 := Aside0.mk H
 clear H
 go_enter Try.func16, Try.ntmps16
 go_upto_region 1 with (fail)
 go_cut [34] (fun v34 wc => ∃ (kq : Nat) (x34_3 : Bool), v34 = .bool x34_3 ∧ Aside0 (comfitlaw04_PacketsSum.j0 kq l0 a1 a2 x34_3 = some r) ∧ Aside0 (kq ≤ k) ∧ Aside0 (Below w.heap.size w wc))
 case first =>
  have H := HC4.out
  clear HC4
  replace H := Option.bind_eq_some_iff.mp H
  obtain ⟨t626, A50, H⟩ := H
  replace H : (if t626 = true then (if a2 < 0 then (comfitlaw04_PacketsSum.j0 k l0 a1 a2 true) else (comfitlaw04_PacketsSum.j0 k l0 a1 a2 (decide (a2 > 8)))) else (comfitlaw04_PacketsSum.j0 k l0 a1 a2 true)) = some r := H
  have A5 := Aside0.mk A50
  clear A50
  by_cases c6 : t626 = true
  ·subst c6
   have H1 : (if a2 < 0 then (comfitlaw04_PacketsSum.j0 k l0 a1 a2 true) else (comfitlaw04_PacketsSum.j0 k l0 a1 a2 (decide (a2 > 8)))) = some r := by rw [if_pos rfl] at H; exact H
   clear H
   have H := H1
   clear H1
   by_cases c7 : a2 < 0
   ·rw [if_pos c7] at H
    have c7b0 : decide (a2 < 0) = true := decide_eq_true c7
    clear c7
    (first | rw [c7b0] | (simp only [i64_w, i32_w]; rw [c7b0]) | skip)
    have H' := Aside0.mk H
    clear H
    go_wp2_with (first | ((with_reducible refine gate_callee (f := 21) rfl ?_); refine goesL_ (some 25) rfl rfl Try.func21 (by kernel_rfl) rfl #[.slice A0 l0.length c0, .int .i64 a1] rfl al_ ?_; (with_reducible refine (comfitref04_Set.calls k _ _ l0 a1 true _ ?side1 ?side2 A5.out).mono ?_); (case side1 => exact kc_ (Kd.C_below HR0.out HB.out)); (case side2 => exact HC0.out); rintro e w' ⟨rfl, ⟨nd, rfl⟩⟩; refine ⟨_, rfl, ?_⟩))
    go_meet
    case rel => exact ⟨_, (true), (by first | rfl | (simp; done) | (simp [*]; done)), H', ⟨by first | omega | exact Nat.le_refl _⟩, ⟨by repeat (first | (with_reducible first | exact HB.out | apply below_alloc | apply pw_below_drewN | apply below_drew1) | exact HB.out)⟩⟩
   ·rw [if_neg c7] at H
    have c7b0 : decide (a2 < 0) = false := decide_eq_false c7
    clear c7
    (first | rw [c7b0] | (simp only [i64_w, i32_w]; rw [c7b0]) | skip)
    have H' := Aside0.mk H
    clear H
    go_wp2_with (first | ((with_reducible refine gate_callee (f := 21) rfl ?_); refine goesL_ (some 25) rfl rfl Try.func21 (by kernel_rfl) rfl #[.slice A0 l0.length c0, .int .i64 a1] rfl al_ ?_; (with_reducible refine (comfitref04_Set.calls k _ _ l0 a1 true _ ?side1 ?side2 A5.out).mono ?_); (case side1 => exact kc_ (Kd.C_below HR0.out HB.out)); (case side2 => exact HC0.out); rintro e w' ⟨rfl, ⟨nd, rfl⟩⟩; refine ⟨_, rfl, ?_⟩))
    go_meet
    case rel => exact ⟨_, (decide (a2 > 8)), (by first | rfl | (simp; done) | (simp [*]; done)), H', ⟨by first | omega | exact Nat.le_refl _⟩, ⟨by repeat (first | (with_reducible first | exact HB.out | apply below_alloc | apply pw_below_drewN | apply below_drew1) | exact HB.out)⟩⟩
  ·replace c6 := Bool.eq_false_iff.mpr c6
   subst c6
   have H1 : (comfitlaw04_PacketsSum.j0 k l0 a1 a2 true) = some r := by rw [if_neg (show ¬ (false = true) by decide)] at H; exact H
   clear H
   have H := H1
   clear H1
   have H' := Aside0.mk H
   clear H
   go_wp2_with (first | ((with_reducible refine gate_callee (f := 21) rfl ?_); refine goesL_ (some 25) rfl rfl Try.func21 (by kernel_rfl) rfl #[.slice A0 l0.length c0, .int .i64 a1] rfl al_ ?_; (with_reducible refine (comfitref04_Set.calls k _ _ l0 a1 false _ ?side1 ?side2 A5.out).mono ?_); (case side1 => exact kc_ (Kd.C_below HR0.out HB.out)); (case side2 => exact HC0.out); rintro e w' ⟨rfl, ⟨nd, rfl⟩⟩; refine ⟨_, rfl, ?_⟩))
   go_meet
   case rel => exact ⟨_, (true), (by first | rfl | (simp; done) | (simp [*]; done)), H', ⟨by first | omega | exact Nat.le_refl _⟩, ⟨by repeat (first | (with_reducible first | exact HB.out | apply below_alloc | apply pw_below_drewN | apply below_drew1) | exact HB.out)⟩⟩
 case rest =>
  clear HC4
  try clear c1
  try clear c2
  try clear p2
  try clear c6
  try clear c7
  try clear c7b0
  obtain ⟨kq, x34_3, rfl, HA, HJ3, HB⟩ := hcut
  cases kq with
  | zero => exact absurd HA.out (by simp [comfitlaw04_PacketsSum.j0])
  | succ kj3 =>
   have H := HA.out
   clear HA
   simp only [comfitlaw04_PacketsSum.j0] at H
   by_cases c8 : x34_3 = true
   ·subst c8
    have H1 : ((comfitlaw04_list.f l0).bind fun t627 => ((packets_Done.f kj3 t627 a1 a2).bind fun bt630 => (if bt630.2.2 = 2 then ((comfitlaw04_awake.f kj3).bind fun t634 => (some t634)) else (some false)))) = some r := by rw [if_pos rfl] at H; exact H
    clear H
    have H := H1
    clear H1
    replace H := Option.bind_eq_some_iff.mp H
    obtain ⟨t627, A90, H⟩ := H
    replace H : ((packets_Done.f kj3 t627 a1 a2).bind fun bt630 => (if bt630.2.2 = 2 then ((comfitlaw04_awake.f kj3).bind fun t634 => (some t634)) else (some false))) = some r := H
    have A9 := Aside0.mk A90
    clear A90
    replace H := Option.bind_eq_some_iff.mp H
    obtain ⟨⟨t630, t631, t632⟩, A100, H⟩ := H
    replace H : (if t632 = 2 then ((comfitlaw04_awake.f kj3).bind fun t634 => (some t634)) else (some false)) = some r := H
    have A10 := Aside0.mk A100
    clear A100
    by_cases c11 : t632 = 2
    ·rw [if_pos c11] at H
     have c11b0 : (t632 == 2) = true := beq_iff_eq.mpr c11
     have c11b1 : (t632 != 2) = false := bne_eq_false_iff_eq.mpr c11
     clear c11
     replace H := Option.bind_eq_some_iff.mp H
     obtain ⟨t634, A120, H⟩ := H
     replace H : (some t634) = some r := H
     have A12 := Aside0.mk A120
     clear A120
     obtain rfl := Option.some.inj H
     go_wp2_with (first | ((with_reducible refine gate_callee (f := 22) rfl ?_); refine goesL_ (some 37) rfl rfl Try.func22 (by kernel_rfl) rfl #[.slice A0 l0.length c0] rfl al_ ?_; (with_reducible refine (comfitlaw04_list.calls _ _ l0 t627 _ ?side1 ?side2 A9.out).mono ?_); (case side1 => exact kc_ (Kd.C_below HR0.out HB.out)); (case side2 => exact HC0.out); rintro e w13 ⟨v628, rfl, ho0, hb⟩; refine ⟨_, rfl, ?_⟩; have n0_ := Aside0.mk (Kd.R_lower ho0 (below_size (hb_ HB.out))); have n1_ := Aside0.mk (below_step (hb_ HB.out) hb); clear HB; have HO629 := n0_; have HB := n1_; clear n0_ n1_; (try clear hb); (try clear hb2); (try clear hk); (try clear hi); (try clear ho0); obtain ⟨Ao14, co14, eo14⟩ := Kd.R_slice HO629.out; subst eo14) | ((with_reducible refine gate_callee (f := 37) rfl ?_); refine goesL_ (some 40) rfl rfl Try.func37 (by kernel_rfl) rfl #[.slice Ao14 t627.length co14, .int .i64 a1, .int .i64 a2] rfl al_ ?_; (with_reducible refine (packets_Done.calls kj3 _ _ t627 a1 a2 t630 t631 t632 _ ?side1 ?side2 A10.out).mono ?_); (case side1 => exact kc_ (Kd.R_reads' HO629.out).2.2); (case side2 => exact (Kd.R_reads' HO629.out).2.1); rintro e w15 ⟨rfl, hb⟩; refine ⟨_, rfl, ?_⟩; have n0_ := Aside0.mk (Kd.R_below (kr_ (HO629.out)) hb); have n1_ := Aside0.mk (below_step (hb_ HB.out) hb); clear HO629; clear HB; have HO629 := n0_; have HB := n1_; clear n0_ n1_; (try clear hb); (try clear hb2); (try clear hk); (try clear hi)) | ((with_reducible refine gate_dst (N := 7) rfl ?_); refine box_event ?hg (N := 7) ?hd (cs := #[.int .i64 0, .int .i64 0]) (t := 25) ?hr ?_; (case hd => rfl); (case hg => rfl); (case hr => first | (go_simp; done) | (go_simp; rfl)); intro gb633 hg w16 hbox hb; have n0_ := Aside0.mk (Kd.R_below (kr_ (HO629.out)) hb); have n1_ := Aside0.mk (below_step (hb_ HB.out) hb); have n2_ := Aside0.mk (hbox); have n3_ := Aside0.mk ((by rw [hg]; exact (below_size (hb_ HB.out)) : w.heap.size ≤ gb633)); have n4_ := Aside0.mk ((by rw [hg]; exact (below_size (hb_ HB.out)) : w.heap.size ≤ gb633)); clear HO629; clear HB; have HO629 := n0_; have HB := n1_; have BK633 := n2_; have GW633 := n3_; have GE633 := n4_; clear n0_ n1_ n2_ n3_ n4_; clear hb hbox hg; have hcz17_0 : w16.cell? ⟨gb633, 0, none⟩ = some (.int .i64 0) := (blk_cell BK633.out 0).trans rfl; have hcz17_1 : w16.cell? ⟨gb633, 1, none⟩ = some (.int .i64 0) := (blk_cell BK633.out 1).trans rfl; have hfz17_0 := blk_frozen BK633.out 0; have hfz17_1 := blk_frozen BK633.out 1) | (go_at_call 20; (with_reducible refine (comfitlaw04_awake.calls kj3  t634 _ A12.out).mono ?_); rintro e w18 ⟨rfl, hb⟩; have n0_ := Aside0.mk (Kd.R_below (kr_ ((Kd.R_mono (Kd.R_far (p := ⟨gb633, 1, none⟩) (Kd.R_far (p := ⟨gb633, 0, none⟩) (Kd.R_types HO629.out BK633.out (by decide)) (fun _ hk => hk.2) (.int .i64 t630)) (fun _ hk => hk.2) (.int .i64 t631)) (fun _ h_ => h_.1)))) hb); have n1_ := Aside0.mk (blk_below (g := gb633) (o := .cells #[.int .i64 t630, .int .i64 t631] 25 (0, 0)) (by (with_reducible repeat (first | refine blk_drewN ?_ _ | refine blk_drew ?_ | refine blk_alloc ?_ _)); refine blk_put (cs := #[.int .i64 t630, .int .i64 0]) ?_ 1 _ rfl; (with_reducible repeat (first | refine blk_drewN ?_ _ | refine blk_drew ?_ | refine blk_alloc ?_ _)); refine blk_put (cs := #[.int .i64 0, .int .i64 0]) ?_ 0 _ rfl; (with_reducible repeat (first | refine blk_drewN ?_ _ | refine blk_drew ?_ | refine blk_alloc ?_ _)); exact BK633.out) hb); have n2_ := Aside0.mk (below_step (hb_ HB.out) hb); clear HO629; clear BK633; clear HB; have HO629 := n0_; have BK633 := n1_; have HB := n2_; clear n0_ n1_ n2_; (try clear hb); (try clear hb2); (try clear hk); (try clear hi)))
     go_ret
     exact ⟨by first | rfl | (simp [errW_none, errW_some] <;> rfl) | (simp [*, errW_none, errW_some] <;> rfl), by repeat (first | (with_reducible first | exact HB.out | apply below_alloc | apply pw_below_drewN | apply below_drew1 | refine below_set ?_ GE633.out) | exact HB.out)⟩
    ·rw [if_neg c11] at H
     have c11b0 : (t632 == 2) = false := beq_eq_false_iff_ne.mpr c11
     have c11b1 : (t632 != 2) = true := bne_iff_ne.mpr c11
     obtain rfl := Option.some.inj H
     go_wp2_with (first | ((with_reducible refine gate_callee (f := 22) rfl ?_); refine goesL_ (some 37) rfl rfl Try.func22 (by kernel_rfl) rfl #[.slice A0 l0.length c0] rfl al_ ?_; (with_reducible refine (comfitlaw04_list.calls _ _ l0 t627 _ ?side1 ?side2 A9.out).mono ?_); (case side1 => exact kc_ (Kd.C_below HR0.out HB.out)); (case side2 => exact HC0.out); rintro e w19 ⟨v628, rfl, ho0, hb⟩; refine ⟨_, rfl, ?_⟩; have n0_ := Aside0.mk (Kd.R_lower ho0 (below_size (hb_ HB.out))); have n1_ := Aside0.mk (below_step (hb_ HB.out) hb); clear HB; have HO629 := n0_; have HB := n1_; clear n0_ n1_; (try clear hb); (try clear hb2); (try clear hk); (try clear hi); (try clear ho0); obtain ⟨Ao20, co20, eo20⟩ := Kd.R_slice HO629.out; subst eo20) | ((with_reducible refine gate_callee (f := 37) rfl ?_); refine goesL_ (some 40) rfl rfl Try.func37 (by kernel_rfl) rfl #[.slice Ao20 t627.length co20, .int .i64 a1, .int .i64 a2] rfl al_ ?_; (with_reducible refine (packets_Done.calls kj3 _ _ t627 a1 a2 t630 t631 t632 _ ?side1 ?side2 A10.out).mono ?_); (case side1 => exact kc_ (Kd.R_reads' HO629.out).2.2); (case side2 => exact (Kd.R_reads' HO629.out).2.1); rintro e w21 ⟨rfl, hb⟩; refine ⟨_, rfl, ?_⟩; have n0_ := Aside0.mk (Kd.R_below (kr_ (HO629.out)) hb); have n1_ := Aside0.mk (below_step (hb_ HB.out) hb); clear HO629; clear HB; have HO629 := n0_; have HB := n1_; clear n0_ n1_; (try clear hb); (try clear hb2); (try clear hk); (try clear hi)) | ((with_reducible refine gate_dst (N := 7) rfl ?_); refine box_event ?hg (N := 7) ?hd (cs := #[.int .i64 0, .int .i64 0]) (t := 25) ?hr ?_; (case hd => rfl); (case hg => rfl); (case hr => first | (go_simp; done) | (go_simp; rfl)); intro gb633 hg w22 hbox hb; have n0_ := Aside0.mk (Kd.R_below (kr_ (HO629.out)) hb); have n1_ := Aside0.mk (below_step (hb_ HB.out) hb); have n2_ := Aside0.mk (hbox); have n3_ := Aside0.mk ((by rw [hg]; exact (below_size (hb_ HB.out)) : w.heap.size ≤ gb633)); have n4_ := Aside0.mk ((by rw [hg]; exact (below_size (hb_ HB.out)) : w.heap.size ≤ gb633)); clear HO629; clear HB; have HO629 := n0_; have HB := n1_; have BK633 := n2_; have GW633 := n3_; have GE633 := n4_; clear n0_ n1_ n2_ n3_ n4_; clear hb hbox hg; have hcz23_0 : w22.cell? ⟨gb633, 0, none⟩ = some (.int .i64 0) := (blk_cell BK633.out 0).trans rfl; have hcz23_1 : w22.cell? ⟨gb633, 1, none⟩ = some (.int .i64 0) := (blk_cell BK633.out 1).trans rfl; have hfz23_0 := blk_frozen BK633.out 0; have hfz23_1 := blk_frozen BK633.out 1))
     go_ret
     exact ⟨by first | rfl | (simp [errW_none, errW_some] <;> rfl) | (simp [*, errW_none, errW_some] <;> rfl), by repeat (first | (with_reducible first | exact HB.out | apply below_alloc | apply pw_below_drewN | apply below_drew1 | refine below_set ?_ GE633.out) | exact HB.out)⟩
   ·replace c8 := Bool.eq_false_iff.mpr c8
    subst c8
    have H1 : (comfitlaw04_PacketsSum.l0 kj3 l0 a1 a2 (l0.length : Int) 0 0 1 0 1 0 1) = some r := by rw [if_neg (show ¬ (false = true) by decide)] at H; exact H
    clear H
    have H := H1
    clear H1
    have H' := Aside0.mk H
    clear H
    go_wp2_with (first | ((with_reducible refine gate_dst (N := 9) rfl ?_); refine box_event ?hg (N := 9) ?hd (cs := #[.int .i64 0, .int .i64 0]) (t := 25) ?hr ?_; (case hd => rfl); (case hg => rfl); (case hr => first | (go_simp; done) | (go_simp; rfl)); intro gb635 hg w24 hbox hb; have n0_ := Aside0.mk (below_step (hb_ HB.out) hb); have n1_ := Aside0.mk (hbox); have n2_ := Aside0.mk ((by rw [hg]; exact (below_size (hb_ HB.out)) : w.heap.size ≤ gb635)); have n3_ := Aside0.mk ((by rw [hg]; exact (below_size (hb_ HB.out)) : w.heap.size ≤ gb635)); clear HB; have HB := n0_; have BK635 := n1_; have GW635 := n2_; have GE635 := n3_; clear n0_ n1_ n2_ n3_; clear hb hbox hg) | ((with_reducible refine gate_dst (N := 10) rfl ?_); refine box_event ?hg (N := 10) ?hd (cs := #[.int .i64 0, .int .i64 0]) (t := 25) ?hr ?_; (case hd => rfl); (case hg => rfl); (case hr => first | (go_simp; done) | (go_simp; rfl)); intro gb636 hg w25 hbox hb; have n0_ := Aside0.mk (bkb_ BK635.out hb); have n1_ := Aside0.mk (below_step (hb_ HB.out) hb); have n2_ := Aside0.mk (hbox); have n3_ := Aside0.mk ((by rw [hg]; exact (below_size (hb_ HB.out)) : w.heap.size ≤ gb636)); have n4_ := Aside0.mk ((by rw [hg]; exact (below_size (hb_ HB.out)) : w.heap.size ≤ gb636)); have n5_ := Aside0.mk ((by rw [hg]; exact Nat.ne_of_lt (bkl_ BK635.out) : gb635 ≠ gb636)); have n6_ := Aside0.mk ((by rw [hg]; exact Nat.ne_of_gt (bkl_ BK635.out) : gb636 ≠ gb635)); clear BK635; clear HB; have BK635 := n0_; have HB := n1_; have BK636 := n2_; have GW636 := n3_; have GE636 := n4_; have NB635_636 := n5_; have NB636_635 := n6_; clear n0_ n1_ n2_ n3_ n4_ n5_ n6_; clear hb hbox hg) | ((with_reducible refine gate_dst (N := 11) rfl ?_); refine box_event ?hg (N := 11) ?hd (cs := #[.int .i64 0, .int .i64 0]) (t := 25) ?hr ?_; (case hd => rfl); (case hg => rfl); (case hr => first | (go_simp; done) | (go_simp; rfl)); intro gb637 hg w26 hbox hb; have n0_ := Aside0.mk (bkb_ BK635.out hb); have n1_ := Aside0.mk (bkb_ BK636.out hb); have n2_ := Aside0.mk (below_step (hb_ HB.out) hb); have n3_ := Aside0.mk (hbox); have n4_ := Aside0.mk ((by rw [hg]; exact (below_size (hb_ HB.out)) : w.heap.size ≤ gb637)); have n5_ := Aside0.mk ((by rw [hg]; exact (below_size (hb_ HB.out)) : w.heap.size ≤ gb637)); have n6_ := Aside0.mk ((by rw [hg]; exact Nat.ne_of_lt (bkl_ BK635.out) : gb635 ≠ gb637)); have n7_ := Aside0.mk ((by rw [hg]; exact Nat.ne_of_gt (bkl_ BK635.out) : gb637 ≠ gb635)); have n8_ := Aside0.mk ((by rw [hg]; exact Nat.ne_of_lt (bkl_ BK636.out) : gb636 ≠ gb637)); have n9_ := Aside0.mk ((by rw [hg]; exact Nat.ne_of_gt (bkl_ BK636.out) : gb637 ≠ gb636)); clear BK635; clear BK636; clear HB; have BK635 := n0_; have BK636 := n1_; have HB := n2_; have BK637 := n3_; have GW637 := n4_; have GE637 := n5_; have NB635_637 := n6_; have NB637_635 := n7_; have NB636_637 := n8_; have NB637_636 := n9_; clear n0_ n1_ n2_ n3_ n4_ n5_ n6_ n7_ n8_ n9_; clear hb hbox hg; have hnb27 := NB635_636.out; have hnc27 := NB636_635.out; have hnb28 := NB635_637.out; have hnc28 := NB637_635.out; have hcz29_0 : w26.cell? ⟨gb635, 0, none⟩ = some (.int .i64 0) := (blk_cell BK635.out 0).trans rfl; have hcz29_1 : w26.cell? ⟨gb635, 1, none⟩ = some (.int .i64 0) := (blk_cell BK635.out 1).trans rfl; have hfz29_0 := blk_frozen BK635.out 0; have hfz29_1 := blk_frozen BK635.out 1; have hnb30 := NB636_637.out; have hnc30 := NB637_636.out; have hcz31_0 : w26.cell? ⟨gb636, 0, none⟩ = some (.int .i64 0) := (blk_cell BK636.out 0).trans rfl; have hcz31_1 : w26.cell? ⟨gb636, 1, none⟩ = some (.int .i64 0) := (blk_cell BK636.out 1).trans rfl; have hfz31_0 := blk_frozen BK636.out 0; have hfz31_1 := blk_frozen BK636.out 1; have hcz32_0 : w26.cell? ⟨gb637, 0, none⟩ = some (.int .i64 0) := (blk_cell BK637.out 0).trans rfl; have hcz32_1 : w26.cell? ⟨gb637, 1, none⟩ = some (.int .i64 0) := (blk_cell BK637.out 1).trans rfl; have hfz32_0 := blk_frozen BK637.out 0; have hfz32_1 := blk_frozen BK637.out 1))
    go_loopg [53] kj3 (fun kq v53 w' => ∃ (x53_2 : Int) (x636000_2 : Int) (x636001_2 : Int), v53 = .int .i64 x53_2 ∧ Aside0 (comfitlaw04_PacketsSum.l0 kq l0 a1 a2 (l0.length : Int) x53_2 x636000_2 x636001_2 0 1 0 1 = some r) ∧ Aside0 (kq ≤ kj3) ∧ Aside0 (w'.heap[gb635]? = some (.cells #[.int .i64 x636000_2, .int .i64 x636001_2] 25 (0, 0))) ∧ Aside0 (w'.heap[gb636]? = some (.cells #[.int .i64 0, .int .i64 1] 25 (0, 0))) ∧ Aside0 (w'.heap[gb637]? = some (.cells #[.int .i64 0, .int .i64 1] 25 (0, 0))) ∧ Aside0 (Below w.heap.size w w'))
    case atStart => exact ⟨(0), (0), (1), (by first | rfl | (simp; done) | (simp [*]; done)), H', ⟨Nat.le_refl _⟩, ⟨by (with_reducible repeat (first | refine blk_drewN ?_ _ | refine blk_drew ?_ | refine blk_alloc ?_ _)); refine blk_far ?_ NB635_637.out _; (with_reducible repeat (first | refine blk_drewN ?_ _ | refine blk_drew ?_ | refine blk_alloc ?_ _)); refine blk_far ?_ NB635_637.out _; (with_reducible repeat (first | refine blk_drewN ?_ _ | refine blk_drew ?_ | refine blk_alloc ?_ _)); refine blk_far ?_ NB635_636.out _; (with_reducible repeat (first | refine blk_drewN ?_ _ | refine blk_drew ?_ | refine blk_alloc ?_ _)); refine blk_far ?_ NB635_636.out _; (with_reducible repeat (first | refine blk_drewN ?_ _ | refine blk_drew ?_ | refine blk_alloc ?_ _)); refine blk_put (cs := #[.int .i64 0, .int .i64 0]) ?_ 1 _ rfl; (with_reducible repeat (first | refine blk_drewN ?_ _ | refine blk_drew ?_ | refine blk_alloc ?_ _)); refine blk_put (cs := #[.int .i64 0, .int .i64 0]) ?_ 0 _ rfl; (with_reducible repeat (first | refine blk_drewN ?_ _ | refine blk_drew ?_ | refine blk_alloc ?_ _)); exact BK635.out⟩, ⟨by (with_reducible repeat (first | refine blk_drewN ?_ _ | refine blk_drew ?_ | refine blk_alloc ?_ _)); refine blk_far ?_ NB636_637.out _; (with_reducible repeat (first | refine blk_drewN ?_ _ | refine blk_drew ?_ | refine blk_alloc ?_ _)); refine blk_far ?_ NB636_637.out _; (with_reducible repeat (first | refine blk_drewN ?_ _ | refine blk_drew ?_ | refine blk_alloc ?_ _)); refine blk_put (cs := #[.int .i64 0, .int .i64 0]) ?_ 1 _ rfl; (with_reducible repeat (first | refine blk_drewN ?_ _ | refine blk_drew ?_ | refine blk_alloc ?_ _)); refine blk_put (cs := #[.int .i64 0, .int .i64 0]) ?_ 0 _ rfl; (with_reducible repeat (first | refine blk_drewN ?_ _ | refine blk_drew ?_ | refine blk_alloc ?_ _)); refine blk_far ?_ NB636_635.out _; (with_reducible repeat (first | refine blk_drewN ?_ _ | refine blk_drew ?_ | refine blk_alloc ?_ _)); refine blk_far ?_ NB636_635.out _; (with_reducible repeat (first | refine blk_drewN ?_ _ | refine blk_drew ?_ | refine blk_alloc ?_ _)); exact BK636.out⟩, ⟨by (with_reducible repeat (first | refine blk_drewN ?_ _ | refine blk_drew ?_ | refine blk_alloc ?_ _)); refine blk_put (cs := #[.int .i64 0, .int .i64 0]) ?_ 1 _ rfl; (with_reducible repeat (first | refine blk_drewN ?_ _ | refine blk_drew ?_ | refine blk_alloc ?_ _)); refine blk_put (cs := #[.int .i64 0, .int .i64 0]) ?_ 0 _ rfl; (with_reducible repeat (first | refine blk_drewN ?_ _ | refine blk_drew ?_ | refine blk_alloc ?_ _)); refine blk_far ?_ NB637_636.out _; (with_reducible repeat (first | refine blk_drewN ?_ _ | refine blk_drew ?_ | refine blk_alloc ?_ _)); refine blk_far ?_ NB637_636.out _; (with_reducible repeat (first | refine blk_drewN ?_ _ | refine blk_drew ?_ | refine blk_alloc ?_ _)); refine blk_far ?_ NB637_635.out _; (with_reducible repeat (first | refine blk_drewN ?_ _ | refine blk_drew ?_ | refine blk_alloc ?_ _)); refine blk_far ?_ NB637_635.out _; (with_reducible repeat (first | refine blk_drewN ?_ _ | refine blk_drew ?_ | refine blk_alloc ?_ _)); exact BK637.out⟩, ⟨by repeat (first | (with_reducible first | exact HB.out | apply below_alloc | apply pw_below_drewN | apply below_drew1 | refine below_set ?_ GE635.out | refine below_set ?_ GE636.out | refine below_set ?_ GE637.out) | exact HB.out)⟩⟩
    case round =>
     clear H'
     try clear c1
     try clear c2
     try clear p2
     try clear c3
     try clear c6
     try clear c7
     try clear c7b0
     try clear c8
     try clear c11
     try clear c11b0
     try clear c11b1
     try clear c16
     try clear c21
     try clear c22
     try clear c27
     try clear c28
     try clear c30
     try clear hcz17_0
     try clear hcz17_1
     try clear hcz23_0
     try clear hcz23_1
     try clear hcz29_0
     try clear hcz29_1
     try clear hcz31_0
     try clear hcz31_1
     try clear hcz32_0
     try clear hcz32_1
     try clear hfz17_0
     try clear hfz17_1
     try clear hfz23_0
     try clear hfz23_1
     try clear hfz29_0
     try clear hfz29_1
     try clear hfz31_0
     try clear hfz31_1
     try clear hfz32_0
     try clear hfz32_1
     try clear p2
     obtain ⟨x53_2, x636000_2, x636001_2, rfl, HA, HK2, BK635, BK636, BK637, HB⟩ := hrel
     cases gk with
     | zero => exact absurd HA.out (by simp [comfitlaw04_PacketsSum.l0])
     | succ k2 =>
      have H := HA.out
      clear HA
      simp only [comfitlaw04_PacketsSum.l0] at H
      by_cases c33 : x53_2 < (l0.length : Int)
      ·rw [if_pos c33] at H
       have c33b0 : decide (x53_2 < (l0.length : Int)) = true := decide_eq_true c33
       clear c33
       by_cases c34 : 0 ≤ x53_2
       ·rw [if_pos c34] at H
        have c34b0 := eq_true c34
        have c34b1 : decide (0 ≤ x53_2) = true := decide_eq_true c34
        clear c34
        obtain ⟨ji35, hji35⟩ : ∃ j_ : Int, (shr .i64 a1 x53_2) = j_ := ⟨_, rfl⟩
        replace H : (if (Go.bits .and .i64 (ji35) 1) = 0 then (comfitlaw04_PacketsSum.l0 k2 l0 a1 a2 (l0.length : Int) (wrap64 (x53_2 + 1)) x636000_2 x636001_2 0 1 0 1) else ((comfitlaw04_list.f l0).bind fun t638 => ((packets_Last.f k2 t638 a1 x53_2).bind fun bt641 => (if bt641.2.2 = 0 then ((comfitlaw04_right.f bt641.1 bt641.2.1 1).bind fun t645 => (comfitlaw04_PacketsSum.j2 k2 l0 a1 a2 (l0.length : Int) x53_2 (!t645) x636000_2 x636001_2 0 1 0 1 bt641.1 bt641.2.1)) else (comfitlaw04_PacketsSum.j2 k2 l0 a1 a2 (l0.length : Int) x53_2 true x636000_2 x636001_2 0 1 0 1 bt641.1 bt641.2.1))))) = some r := by first | (rw [hji35] at H; exact H) | (simp only [hji35] at H ⊢; exact H)
        have hji35_ : (a1 / 2 ^ min x53_2.toNat 64) = ji35 := hji35
        have hji35z : x53_2 ≤ 64 → (a1 / 2 ^ x53_2.toNat) = ji35 := shr_small hji35
        by_cases c36 : (Go.bits .and .i64 (ji35) 1) = 0
        ·rw [if_pos c36] at H
         have c36b0 : ((Go.bits .and .i64 (ji35) 1) == 0) = true := beq_iff_eq.mpr c36
         have c36b1 : ((Go.bits .and .i64 (ji35) 1) != 0) = false := bne_eq_false_iff_eq.mpr c36
         clear c36
         have H' := Aside0.mk H
         clear H
         go_wp2
         go_roundg k2
         case measure => have := HJ3.out; have := HK2.out; omega
         case rel => exact ⟨(wrap64 (x53_2 + 1)), (x636000_2), (x636001_2), (by first | rfl | (simp; done) | (simp [*]; done)), H', ⟨by have := HJ3.out; have := HK2.out; omega⟩, ⟨by (with_reducible repeat (first | refine blk_drewN ?_ _ | refine blk_drew ?_ | refine blk_alloc ?_ _)); exact BK635.out⟩, ⟨by (with_reducible repeat (first | refine blk_drewN ?_ _ | refine blk_drew ?_ | refine blk_alloc ?_ _)); exact BK636.out⟩, ⟨by (with_reducible repeat (first | refine blk_drewN ?_ _ | refine blk_drew ?_ | refine blk_alloc ?_ _)); exact BK637.out⟩, ⟨by repeat (first | (with_reducible first | exact HB.out | apply below_alloc | apply pw_below_drewN | apply below_drew1 | refine below_set ?_ GE635.out | refine below_set ?_ GE636.out | refine below_set ?_ GE637.out) | exact HB.out)⟩⟩
        ·rw [if_neg c36] at H
         have c36b0 : ((Go.bits .and .i64 (ji35) 1) == 0) = false := beq_eq_false_iff_ne.mpr c36
         have c36b1 : ((Go.bits .and .i64 (ji35) 1) != 0) = true := bne_iff_ne.mpr c36
         replace H := Option.bind_eq_some_iff.mp H
         obtain ⟨t638, A370, H⟩ := H
         replace H : ((packets_Last.f k2 t638 a1 x53_2).bind fun bt641 => (if bt641.2.2 = 0 then ((comfitlaw04_right.f bt641.1 bt641.2.1 1).bind fun t645 => (comfitlaw04_PacketsSum.j2 k2 l0 a1 a2 (l0.length : Int) x53_2 (!t645) x636000_2 x636001_2 0 1 0 1 bt641.1 bt641.2.1)) else (comfitlaw04_PacketsSum.j2 k2 l0 a1 a2 (l0.length : Int) x53_2 true x636000_2 x636001_2 0 1 0 1 bt641.1 bt641.2.1))) = some r := H
         have A37 := Aside0.mk A370
         clear A370
         replace H := Option.bind_eq_some_iff.mp H
         obtain ⟨⟨t641, t642, t643⟩, A380, H⟩ := H
         replace H : (if t643 = 0 then ((comfitlaw04_right.f t641 t642 1).bind fun t645 => (comfitlaw04_PacketsSum.j2 k2 l0 a1 a2 (l0.length : Int) x53_2 (!t645) x636000_2 x636001_2 0 1 0 1 t641 t642)) else (comfitlaw04_PacketsSum.j2 k2 l0 a1 a2 (l0.length : Int) x53_2 true x636000_2 x636001_2 0 1 0 1 t641 t642)) = some r := H
         have A38 := Aside0.mk A380
         clear A380
         have HC39 := Aside0.mk H
         clear H
         go_upto_region 10 with (first | ((with_reducible refine gate_callee (f := 22) rfl ?_); refine goesL_ (some 63) rfl rfl Try.func22 (by kernel_rfl) rfl #[.slice A0 l0.length c0] rfl al_ ?_; (with_reducible refine (comfitlaw04_list.calls _ _ l0 t638 _ ?side1 ?side2 A37.out).mono ?_); (case side1 => exact kc_ (Kd.C_below HR0.out HB.out)); (case side2 => exact HC0.out); rintro e w40 ⟨v639, rfl, ho0, hb⟩; refine ⟨_, rfl, ?_⟩; have n0_ := Aside0.mk (Kd.R_lower ho0 (below_size (hb_ HB.out))); have n1_ := Aside0.mk (bkb_ BK635.out hb); have n2_ := Aside0.mk (bkb_ BK636.out hb); have n3_ := Aside0.mk (bkb_ BK637.out hb); have n4_ := Aside0.mk (below_step (hb_ HB.out) hb); clear BK635; clear BK636; clear BK637; clear HB; have HO640 := n0_; have BK635 := n1_; have BK636 := n2_; have BK637 := n3_; have HB := n4_; clear n0_ n1_ n2_ n3_ n4_; (try clear hb); (try clear hb2); (try clear hk); (try clear hi); (try clear ho0); obtain ⟨Ao41, co41, eo41⟩ := Kd.R_slice HO640.out; subst eo41) | ((with_reducible refine gate_callee (f := 26) rfl ?_); refine goesL_ (some 66) rfl rfl Try.func26 (by kernel_rfl) rfl #[.slice Ao41 t638.length co41, .int .i64 a1, .int .i64 x53_2] rfl al_ ?_; (with_reducible refine (packets_Last.calls k2 _ _ t638 a1 x53_2 t641 t642 t643 _ ?side1 ?side2 A38.out).mono ?_); (case side1 => exact kc_ (Kd.R_reads' HO640.out).2.2); (case side2 => exact (Kd.R_reads' HO640.out).2.1); rintro e w42 ⟨rfl, hb⟩; refine ⟨_, rfl, ?_⟩; have n0_ := Aside0.mk (Kd.R_below (kr_ (HO640.out)) hb); have n1_ := Aside0.mk (bkb_ BK635.out hb); have n2_ := Aside0.mk (bkb_ BK636.out hb); have n3_ := Aside0.mk (bkb_ BK637.out hb); have n4_ := Aside0.mk (below_step (hb_ HB.out) hb); clear HO640; clear BK635; clear BK636; clear BK637; clear HB; have HO640 := n0_; have BK635 := n1_; have BK636 := n2_; have BK637 := n3_; have HB := n4_; clear n0_ n1_ n2_ n3_ n4_; (try clear hb); (try clear hb2); (try clear hk); (try clear hi)) | ((with_reducible refine gate_dst (N := 13) rfl ?_); refine box_event ?hg (N := 13) ?hd (cs := #[.int .i64 0, .int .i64 0]) (t := 25) ?hr ?_; (case hd => rfl); (case hg => rfl); (case hr => first | (go_simp; done) | (go_simp; rfl)); intro gb644 hg w43 hbox hb; have n0_ := Aside0.mk (Kd.R_below (kr_ (HO640.out)) hb); have n1_ := Aside0.mk (bkb_ BK635.out hb); have n2_ := Aside0.mk (bkb_ BK636.out hb); have n3_ := Aside0.mk (bkb_ BK637.out hb); have n4_ := Aside0.mk (below_step (hb_ HB.out) hb); have n5_ := Aside0.mk (hbox); have n6_ := Aside0.mk ((by rw [hg]; exact (below_size (hb_ HB.out)) : w.heap.size ≤ gb644)); have n7_ := Aside0.mk ((by rw [hg]; exact (below_size (hb_ HB.out)) : w.heap.size ≤ gb644)); have n8_ := Aside0.mk ((by rw [hg]; exact Nat.ne_of_lt (bkl_ BK635.out) : gb635 ≠ gb644)); have n9_ := Aside0.mk ((by rw [hg]; exact Nat.ne_of_gt (bkl_ BK635.out) : gb644 ≠ gb635)); have n10_ := Aside0.mk ((by rw [hg]; exact Nat.ne_of_lt (bkl_ BK636.out) : gb636 ≠ gb644)); have n11_ := Aside0.mk ((by rw [hg]; exact Nat.ne_of_gt (bkl_ BK636.out) : gb644 ≠ gb636)); have n12_ := Aside0.mk ((by rw [hg]; exact Nat.ne_of_lt (bkl_ BK637.out) : gb637 ≠ gb644)); have n13_ := Aside0.mk ((by rw [hg]; exact Nat.ne_of_gt (bkl_ BK637.out) : gb644 ≠ gb637)); clear HO640; clear BK635; clear BK636; clear BK637; clear HB; have HO640 := n0_; have BK635 := n1_; have BK636 := n2_; have BK637 := n3_; have HB := n4_; have BK644 := n5_; have GW644 := n6_; have GE644 := n7_; have NB635_644 := n8_; have NB644_635 := n9_; have NB636_644 := n10_; have NB644_636 := n11_; have NB637_644 := n12_; have NB644_637 := n13_; clear n0_ n1_ n2_ n3_ n4_ n5_ n6_ n7_ n8_ n9_ n10_ n11_ n12_ n13_; clear hb hbox hg; have hnb44 := NB644_635.out; have hnc44 := NB635_644.out; have hnb45 := NB644_636.out; have hnc45 := NB636_644.out; have hnb46 := NB644_637.out; have hnc46 := NB637_644.out; have hcz47_0 : w43.cell? ⟨gb644, 0, none⟩ = some (.int .i64 0) := (blk_cell BK644.out 0).trans rfl; have hcz47_1 : w43.cell? ⟨gb644, 1, none⟩ = some (.int .i64 0) := (blk_cell BK644.out 1).trans rfl; have hfz47_0 := blk_frozen BK644.out 0; have hfz47_1 := blk_frozen BK644.out 1))
         (try simp only [Act.put, List.setIfInBounds_toArray, List.set_cons_zero, List.set_cons_succ])
         go_cut [75] (fun v75 wc => ∃ (kq : Nat) (x75_38 : Bool), v75 = .bool x75_38 ∧ Aside0 (comfitlaw04_PacketsSum.j2 kq l0 a1 a2 (l0.length : Int) x53_2 x75_38 x636000_2 x636001_2 0 1 0 1 t641 t642 = some r) ∧ Aside0 (kq ≤ k2) ∧ Aside0 (wc.heap[gb635]? = some (.cells #[.int .i64 x636000_2, .int .i64 x636001_2] 25 (0, 0))) ∧ Aside0 (wc.heap[gb636]? = some (.cells #[.int .i64 0, .int .i64 1] 25 (0, 0))) ∧ Aside0 (wc.heap[gb637]? = some (.cells #[.int .i64 0, .int .i64 1] 25 (0, 0))) ∧ Aside0 (wc.heap[gb644]? = some (.cells #[.int .i64 t641, .int .i64 t642] 25 (0, 0))) ∧ Aside0 (Below w.heap.size w wc))
         case first =>
          have H := HC39.out
          clear HC39
          by_cases c48 : t643 = 0
          ·rw [if_pos c48] at H
           have c48b0 : (t643 == 0) = true := beq_iff_eq.mpr c48
           have c48b1 : (t643 != 0) = false := bne_eq_false_iff_eq.mpr c48
           clear c48
           (first | rw [c48b0] | (simp only [i64_w, i32_w]; rw [c48b0]) | skip)
           replace H := Option.bind_eq_some_iff.mp H
           obtain ⟨t645, A490, H⟩ := H
           replace H : (comfitlaw04_PacketsSum.j2 k2 l0 a1 a2 (l0.length : Int) x53_2 (!t645) x636000_2 x636001_2 0 1 0 1 t641 t642) = some r := H
           have A49 := Aside0.mk A490
           clear A490
           have H' := Aside0.mk H
           clear H
           have hnb50 := NB644_635.out
           have hnc50 := NB635_644.out
           have hnb51 := NB644_636.out
           have hnc51 := NB636_644.out
           have hnb52 := NB644_637.out
           have hnc52 := NB637_644.out
           have hcz53_0 : w43.cell? ⟨gb644, 0, none⟩ = some (.int .i64 0) := (blk_cell BK644.out 0).trans rfl
           have hcz53_1 : w43.cell? ⟨gb644, 1, none⟩ = some (.int .i64 0) := (blk_cell BK644.out 1).trans rfl
           have hfz53_0 := blk_frozen BK644.out 0
           have hfz53_1 := blk_frozen BK644.out 1
           go_wp2_with (first | (go_at_call 19; (with_reducible refine (comfitlaw04_right.calls t641 t642 1 t645 _ A49.out).mono ?_); rintro e w54 ⟨rfl, hb⟩; have n0_ := Aside0.mk (Kd.R_below (kr_ ((Kd.R_mono (Kd.R_far (p := ⟨gb644, 1, none⟩) (Kd.R_far (p := ⟨gb644, 0, none⟩) (Kd.R_types HO640.out BK644.out (by decide)) (fun _ hk => hk.2) (.int .i64 t641)) (fun _ hk => hk.2) (.int .i64 t642)) (fun _ h_ => h_.1)))) hb); have n1_ := Aside0.mk (blk_below (g := gb635) (o := .cells #[.int .i64 x636000_2, .int .i64 x636001_2] 25 (0, 0)) (by (with_reducible repeat (first | refine blk_drewN ?_ _ | refine blk_drew ?_ | refine blk_alloc ?_ _)); refine blk_far ?_ NB635_644.out _; (with_reducible repeat (first | refine blk_drewN ?_ _ | refine blk_drew ?_ | refine blk_alloc ?_ _)); refine blk_far ?_ NB635_644.out _; (with_reducible repeat (first | refine blk_drewN ?_ _ | refine blk_drew ?_ | refine blk_alloc ?_ _)); exact BK635.out) hb); have n2_ := Aside0.mk (blk_below (g := gb636) (o := .cells #[.int .i64 0, .int .i64 1] 25 (0, 0)) (by (with_reducible repeat (first | refine blk_drewN ?_ _ | refine blk_drew ?_ | refine blk_alloc ?_ _)); refine blk_far ?_ NB636_644.out _; (with_reducible repeat (first | refine blk_drewN ?_ _ | refine blk_drew ?_ | refine blk_alloc ?_ _)); refine blk_far ?_ NB636_644.out _; (with_reducible repeat (first | refine blk_drewN ?_ _ | refine blk_drew ?_ | refine blk_alloc ?_ _)); exact BK636.out) hb); have n3_ := Aside0.mk (blk_below (g := gb637) (o := .cells #[.int .i64 0, .int .i64 1] 25 (0, 0)) (by (with_reducible repeat (first | refine blk_drewN ?_ _ | refine blk_drew ?_ | refine blk_alloc ?_ _)); refine blk_far ?_ NB637_644.out _; (with_reducible repeat (first | refine blk_drewN ?_ _ | refine blk_drew ?_ | refine blk_alloc ?_ _)); refine blk_far ?_ NB637_644.out _; (with_reducible repeat (first | refine blk_drewN ?_ _ | refine blk_drew ?_ | refine blk_alloc ?_ _)); exact BK637.out) hb); have n4_ := Aside0.mk (blk_below (g := gb644) (o := .cells #[.int .i64 t641, .int .i64 t642] 25 (0, 0)) (by (with_reducible repeat (first | refine blk_drewN ?_ _ | refine blk_drew ?_ | refine blk_alloc ?_ _)); refine blk_put (cs := #[.int .i64 t641, .int .i64 0]) ?_ 1 _ rfl; (with_reducible repeat (first | refine blk_drewN ?_ _ | refine blk_drew ?_ | refine blk_alloc ?_ _)); refine blk_put (cs := #[.int .i64 0, .int .i64 0]) ?_ 0 _ rfl; (with_reducible repeat (first | refine blk_drewN ?_ _ | refine blk_drew ?_ | refine blk_alloc ?_ _)); exact BK644.out) hb); have n5_ := Aside0.mk (below_step (hb_ HB.out) hb); clear HO640; clear BK635; clear BK636; clear BK637; clear BK644; clear HB; have HO640 := n0_; have BK635 := n1_; have BK636 := n2_; have BK637 := n3_; have BK644 := n4_; have HB := n5_; clear n0_ n1_ n2_ n3_ n4_ n5_; (try clear hb); (try clear hb2); (try clear hk); (try clear hi)))
           go_meet
           case rel => exact ⟨_, (!t645), (by first | rfl | (simp; done) | (simp [*]; done)), H', ⟨by have := HJ3.out; have := HK2.out; first | omega | exact Nat.le_refl _⟩, ⟨by (with_reducible repeat (first | refine blk_drewN ?_ _ | refine blk_drew ?_ | refine blk_alloc ?_ _)); exact BK635.out⟩, ⟨by (with_reducible repeat (first | refine blk_drewN ?_ _ | refine blk_drew ?_ | refine blk_alloc ?_ _)); exact BK636.out⟩, ⟨by (with_reducible repeat (first | refine blk_drewN ?_ _ | refine blk_drew ?_ | refine blk_alloc ?_ _)); exact BK637.out⟩, ⟨by (with_reducible repeat (first | refine blk_drewN ?_ _ | refine blk_drew ?_ | refine blk_alloc ?_ _)); exact BK644.out⟩, ⟨by repeat (first | (with_reducible first | exact HB.out | apply below_alloc | apply pw_below_drewN | apply below_drew1 | refine below_set ?_ GE635.out | refine below_set ?_ GE636.out | refine below_set ?_ GE637.out | refine below_set ?_ GE644.out) | exact HB.out)⟩⟩
          ·rw [if_neg c48] at H
           have c48b0 : (t643 == 0) = false := beq_eq_false_iff_ne.mpr c48
           have c48b1 : (t643 != 0) = true := bne_iff_ne.mpr c48
           (first | rw [c48b0] | (simp only [i64_w, i32_w]; rw [c48b0]) | skip)
           have H' := Aside0.mk H
           clear H
           go_wp2
           go_meet
           case rel => exact ⟨_, (true), (by first | rfl | (simp; done) | (simp [*]; done)), H', ⟨by have := HJ3.out; have := HK2.out; first | omega | exact Nat.le_refl _⟩, ⟨by (with_reducible repeat (first | refine blk_drewN ?_ _ | refine blk_drew ?_ | refine blk_alloc ?_ _)); refine blk_far ?_ NB635_644.out _; (with_reducible repeat (first | refine blk_drewN ?_ _ | refine blk_drew ?_ | refine blk_alloc ?_ _)); refine blk_far ?_ NB635_644.out _; (with_reducible repeat (first | refine blk_drewN ?_ _ | refine blk_drew ?_ | refine blk_alloc ?_ _)); exact BK635.out⟩, ⟨by (with_reducible repeat (first | refine blk_drewN ?_ _ | refine blk_drew ?_ | refine blk_alloc ?_ _)); refine blk_far ?_ NB636_644.out _; (with_reducible repeat (first | refine blk_drewN ?_ _ | refine blk_drew ?_ | refine blk_alloc ?_ _)); refine blk_far ?_ NB636_644.out _; (with_reducible repeat (first | refine blk_drewN ?_ _ | refine blk_drew ?_ | refine blk_alloc ?_ _)); exact BK636.out⟩, ⟨by (with_reducible repeat (first | refine blk_drewN ?_ _ | refine blk_drew ?_ | refine blk_alloc ?_ _)); refine blk_far ?_ NB637_644.out _; (with_reducible repeat (first | refine blk_drewN ?_ _ | refine blk_drew ?_ | refine blk_alloc ?_ _)); refine blk_far ?_ NB637_644.out _; (with_reducible repeat (first | refine blk_drewN ?_ _ | refine blk_drew ?_ | refine blk_alloc ?_ _)); exact BK637.out⟩, ⟨by (with_reducible repeat (first | refine blk_drewN ?_ _ | refine blk_drew ?_ | refine blk_alloc ?_ _)); refine blk_put (cs := #[.int .i64 t641, .int .i64 0]) ?_ 1 _ rfl; (with_reducible repeat (first | refine blk_drewN ?_ _ | refine blk_drew ?_ | refine blk_alloc ?_ _)); refine blk_put (cs := #[.int .i64 0, .int .i64 0]) ?_ 0 _ rfl; (with_reducible repeat (first | refine blk_drewN ?_ _ | refine blk_drew ?_ | refine blk_alloc ?_ _)); exact BK644.out⟩, ⟨by repeat (first | (with_reducible first | exact HB.out | apply below_alloc | apply pw_below_drewN | apply below_drew1 | refine below_set ?_ GE635.out | refine below_set ?_ GE636.out | refine below_set ?_ GE637.out | refine below_set ?_ GE644.out) | exact HB.out)⟩⟩
         case rest =>
          clear HC39
          try clear c1
          try clear c2
          try clear p2
          try clear c3
          try clear c4
          try clear c5
          try clear c6
          try clear p6
          try clear c7
          try clear c7b0
          try clear c8
          try clear c11
          try clear c11b0
          try clear c11b1
          try clear c16
          try clear c21
          try clear c22
          try clear c26
          try clear c27
          try clear c28
          try clear c30
          try clear c33
          try clear c33b0
          try clear c34
          try clear c34b0
          try clear c34b1
          try clear c36
          try clear c36b0
          try clear c36b1
          try clear c37
          try clear c44
          try clear c45
          try clear c46
          try clear c48
          try clear c48b0
          try clear c48b1
          try clear c50
          try clear c51
          try clear c52
          try clear hcz17_0
          try clear hcz17_1
          try clear hcz23_0
          try clear hcz23_1
          try clear hcz29_0
          try clear hcz29_1
          try clear hcz31_0
          try clear hcz31_1
          try clear hcz32_0
          try clear hcz32_1
          try clear hcz47_0
          try clear hcz47_1
          try clear hcz53_0
          try clear hcz53_1
          try clear hfz17_0
          try clear hfz17_1
          try clear hfz23_0
          try clear hfz23_1
          try clear hfz29_0
          try clear hfz29_1
          try clear hfz31_0
          try clear hfz31_1
          try clear hfz32_0
          try clear hfz32_1
          try clear hfz47_0
          try clear hfz47_1
          try clear hfz53_0
          try clear hfz53_1
          try clear p2
          obtain ⟨kq, x75_38, rfl, HA, HJ38, BK635, BK636, BK637, BK644, HB⟩ := hcut
          cases kq with
          | zero => exact absurd HA.out (by simp [comfitlaw04_PacketsSum.j2])
          | succ kj38 =>
           have H := HA.out
           clear HA
           simp only [comfitlaw04_PacketsSum.j2] at H
           by_cases c55 : x75_38 = true
           ·subst c55
            have H1 : (some false) = some r := by rw [if_pos rfl] at H; exact H
            clear H
            have H := H1
            clear H1
            obtain rfl := Option.some.inj H
            go_wp2
            go_ret
            exact ⟨by first | rfl | (simp [errW_none, errW_some] <;> rfl) | (simp only [← hji35]; first | rfl | (simp [errW_none, errW_some] <;> rfl)) | (simp [*, errW_none, errW_some] <;> rfl), by repeat (first | (with_reducible first | exact HB.out | apply below_alloc | apply pw_below_drewN | apply below_drew1 | refine below_set ?_ GE635.out | refine below_set ?_ GE636.out | refine below_set ?_ GE637.out | refine below_set ?_ GE644.out) | exact HB.out)⟩
           ·replace c55 := Bool.eq_false_iff.mpr c55
            subst c55
            have H1 : ((comfitlaw04_added.f kj38 x636000_2 x636001_2 t641 t642 false).bind fun bt646 => (if bt646.2.2 = true then (comfitlaw04_PacketsSum.l0 kj38 l0 a1 a2 (l0.length : Int) (wrap64 (x53_2 + 1)) bt646.1 bt646.2.1 0 1 0 1) else (some false))) = some r := by rw [if_neg (show ¬ (false = true) by decide)] at H; exact H
            clear H
            have H := H1
            clear H1
            replace H := Option.bind_eq_some_iff.mp H
            obtain ⟨⟨t646, t647, t648⟩, A560, H⟩ := H
            replace H : (if t648 = true then (comfitlaw04_PacketsSum.l0 kj38 l0 a1 a2 (l0.length : Int) (wrap64 (x53_2 + 1)) t646 t647 0 1 0 1) else (some false)) = some r := H
            have A56 := Aside0.mk A560
            clear A560
            by_cases c57 : t648 = true
            ·subst c57
             have H1 : (comfitlaw04_PacketsSum.l0 kj38 l0 a1 a2 (l0.length : Int) (wrap64 (x53_2 + 1)) t646 t647 0 1 0 1) = some r := by rw [if_pos rfl] at H; exact H
             clear H
             have H := H1
             clear H1
             have H' := Aside0.mk H
             clear H
             have hnb58 := NB635_636.out
             have hnc58 := NB636_635.out
             have hnb59 := NB635_637.out
             have hnc59 := NB637_635.out
             have hnb60 := NB635_644.out
             have hnc60 := NB644_635.out
             have hcz61_0 : wc.cell? ⟨gb635, 0, none⟩ = some (.int .i64 x636000_2) := (blk_cell BK635.out 0).trans rfl
             have hcz61_1 : wc.cell? ⟨gb635, 1, none⟩ = some (.int .i64 x636001_2) := (blk_cell BK635.out 1).trans rfl
             have hfz61_0 := blk_frozen BK635.out 0
             have hfz61_1 := blk_frozen BK635.out 1
             have hnb62 := NB644_636.out
             have hnc62 := NB636_644.out
             have hnb63 := NB644_637.out
             have hnc63 := NB637_644.out
             have hcz64_0 : wc.cell? ⟨gb644, 0, none⟩ = some (.int .i64 t641) := (blk_cell BK644.out 0).trans rfl
             have hcz64_1 : wc.cell? ⟨gb644, 1, none⟩ = some (.int .i64 t642) := (blk_cell BK644.out 1).trans rfl
             have hfz64_0 := blk_frozen BK644.out 0
             have hfz64_1 := blk_frozen BK644.out 1
             go_wp2_with (first | ((with_reducible refine gate_callee (f := 24) rfl ?_); refine goesL_ (some 79) rfl rfl Try.func24 (by kernel_rfl) rfl #[.agg #[.int .i64 x636000_2, .int .i64 x636001_2], .agg #[.int .i64 t641, .int .i64 t642], .bool false] rfl al_ ?_; (with_reducible refine (comfitlaw04_added.calls kj38 x636000_2 x636001_2 t641 t642 false t646 t647 true _ A56.out).mono ?_); rintro e w65 ⟨rfl, hb⟩; refine ⟨_, rfl, ?_⟩; have n0_ := Aside0.mk (bkb_ BK635.out hb); have n1_ := Aside0.mk (bkb_ BK636.out hb); have n2_ := Aside0.mk (bkb_ BK637.out hb); have n3_ := Aside0.mk (bkb_ BK644.out hb); have n4_ := Aside0.mk (below_step (hb_ HB.out) hb); clear BK635; clear BK636; clear BK637; clear BK644; clear HB; have BK635 := n0_; have BK636 := n1_; have BK637 := n2_; have BK644 := n3_; have HB := n4_; clear n0_ n1_ n2_ n3_ n4_; (try clear hb); (try clear hb2); (try clear hk); (try clear hi); have hcz66_0 : w65.cell? ⟨gb635, 0, none⟩ = some (.int .i64 x636000_2) := (blk_cell BK635.out 0).trans rfl; have hcz66_1 : w65.cell? ⟨gb635, 1, none⟩ = some (.int .i64 x636001_2) := (blk_cell BK635.out 1).trans rfl; have hfz66_0 := blk_frozen BK635.out 0; have hfz66_1 := blk_frozen BK635.out 1))
             go_roundg kj38
             case measure => have := HJ3.out; have := HK2.out; have := HJ38.out; omega
             case rel => exact ⟨(wrap64 (x53_2 + 1)), (t646), (t647), (by first | rfl | (simp; done) | (simp [*]; done)), H', ⟨by have := HJ3.out; have := HK2.out; have := HJ38.out; omega⟩, ⟨by (with_reducible repeat (first | refine blk_drewN ?_ _ | refine blk_drew ?_ | refine blk_alloc ?_ _)); refine blk_put (cs := #[.int .i64 t646, .int .i64 x636001_2]) ?_ 1 _ rfl; (with_reducible repeat (first | refine blk_drewN ?_ _ | refine blk_drew ?_ | refine blk_alloc ?_ _)); refine blk_put (cs := #[.int .i64 x636000_2, .int .i64 x636001_2]) ?_ 0 _ rfl; (with_reducible repeat (first | refine blk_drewN ?_ _ | refine blk_drew ?_ | refine blk_alloc ?_ _)); exact BK635.out⟩, ⟨by (with_reducible repeat (first | refine blk_drewN ?_ _ | refine blk_drew ?_ | refine blk_alloc ?_ _)); refine blk_far ?_ NB636_635.out _; (with_reducible repeat (first | refine blk_drewN ?_ _ | refine blk_drew ?_ | refine blk_alloc ?_ _)); refine blk_far ?_ NB636_635.out _; (with_reducible repeat (first | refine blk_drewN ?_ _ | refine blk_drew ?_ | refine blk_alloc ?_ _)); exact BK636.out⟩, ⟨by (with_reducible repeat (first | refine blk_drewN ?_ _ | refine blk_drew ?_ | refine blk_alloc ?_ _)); refine blk_far ?_ NB637_635.out _; (with_reducible repeat (first | refine blk_drewN ?_ _ | refine blk_drew ?_ | refine blk_alloc ?_ _)); refine blk_far ?_ NB637_635.out _; (with_reducible repeat (first | refine blk_drewN ?_ _ | refine blk_drew ?_ | refine blk_alloc ?_ _)); exact BK637.out⟩, ⟨by repeat (first | (with_reducible first | exact HB.out | apply below_alloc | apply pw_below_drewN | apply below_drew1 | refine below_set ?_ GE635.out | refine below_set ?_ GE636.out | refine below_set ?_ GE637.out | refine below_set ?_ GE644.out) | exact HB.out)⟩⟩
            ·replace c57 := Bool.eq_false_iff.mpr c57
             subst c57
             have H1 : (some false) = some r := by rw [if_neg (show ¬ (false = true) by decide)] at H; exact H
             clear H
             have H := H1
             clear H1
             obtain rfl := Option.some.inj H
             have hnb67 := NB635_636.out
             have hnc67 := NB636_635.out
             have hnb68 := NB635_637.out
             have hnc68 := NB637_635.out
             have hnb69 := NB635_644.out
             have hnc69 := NB644_635.out
             have hcz70_0 : wc.cell? ⟨gb635, 0, none⟩ = some (.int .i64 x636000_2) := (blk_cell BK635.out 0).trans rfl
             have hcz70_1 : wc.cell? ⟨gb635, 1, none⟩ = some (.int .i64 x636001_2) := (blk_cell BK635.out 1).trans rfl
             have hfz70_0 := blk_frozen BK635.out 0
             have hfz70_1 := blk_frozen BK635.out 1
             have hnb71 := NB644_636.out
             have hnc71 := NB636_644.out
             have hnb72 := NB644_637.out
             have hnc72 := NB637_644.out
             have hcz73_0 : wc.cell? ⟨gb644, 0, none⟩ = some (.int .i64 t641) := (blk_cell BK644.out 0).trans rfl
             have hcz73_1 : wc.cell? ⟨gb644, 1, none⟩ = some (.int .i64 t642) := (blk_cell BK644.out 1).trans rfl
             have hfz73_0 := blk_frozen BK644.out 0
             have hfz73_1 := blk_frozen BK644.out 1
             go_wp2_with (first | ((with_reducible refine gate_callee (f := 24) rfl ?_); refine goesL_ (some 79) rfl rfl Try.func24 (by kernel_rfl) rfl #[.agg #[.int .i64 x636000_2, .int .i64 x636001_2], .agg #[.int .i64 t641, .int .i64 t642], .bool false] rfl al_ ?_; (with_reducible refine (comfitlaw04_added.calls kj38 x636000_2 x636001_2 t641 t642 false t646 t647 false _ A56.out).mono ?_); rintro e w74 ⟨rfl, hb⟩; refine ⟨_, rfl, ?_⟩; have n0_ := Aside0.mk (bkb_ BK635.out hb); have n1_ := Aside0.mk (bkb_ BK636.out hb); have n2_ := Aside0.mk (bkb_ BK637.out hb); have n3_ := Aside0.mk (bkb_ BK644.out hb); have n4_ := Aside0.mk (below_step (hb_ HB.out) hb); clear BK635; clear BK636; clear BK637; clear BK644; clear HB; have BK635 := n0_; have BK636 := n1_; have BK637 := n2_; have BK644 := n3_; have HB := n4_; clear n0_ n1_ n2_ n3_ n4_; (try clear hb); (try clear hb2); (try clear hk); (try clear hi); have hcz75_0 : w74.cell? ⟨gb635, 0, none⟩ = some (.int .i64 x636000_2) := (blk_cell BK635.out 0).trans rfl; have hcz75_1 : w74.cell? ⟨gb635, 1, none⟩ = some (.int .i64 x636001_2) := (blk_cell BK635.out 1).trans rfl; have hfz75_0 := blk_frozen BK635.out 0; have hfz75_1 := blk_frozen BK635.out 1))
             go_ret
             exact ⟨by first | rfl | (simp [errW_none, errW_some] <;> rfl) | (simp only [← hji35]; first | rfl | (simp [errW_none, errW_some] <;> rfl)) | (simp [*, errW_none, errW_some] <;> rfl), by repeat (first | (with_reducible first | exact HB.out | apply below_alloc | apply pw_below_drewN | apply below_drew1 | refine below_set ?_ GE635.out | refine below_set ?_ GE636.out | refine below_set ?_ GE637.out | refine below_set ?_ GE644.out) | exact HB.out)⟩
       ·rw [if_neg c34] at H
        exact absurd H (by simp)
      ·rw [if_neg c33] at H
       have c33b0 : decide (x53_2 < (l0.length : Int)) = false := decide_eq_false c33
       clear c33
       obtain ⟨ji76, hji76⟩ : ∃ j_ : Int, (shl .i64 1 (l0.length : Int)) = j_ := ⟨_, rfl⟩
       replace H : (comfitlaw04_PacketsSum.l1 k2 l0 a1 a2 ji76 0 x636000_2 x636001_2 0 1 0 1) = some r := by first | (rw [hji76] at H; exact H) | (simp only [hji76] at H ⊢; exact H)
       have hji76_ : (IntKind.i64.wrap (1 * 2 ^ min (l0.length : Int).toNat 64)) = ji76 := hji76
       have hji76z : (l0.length : Int) ≤ 64 → (IntKind.i64.wrap (1 * 2 ^ (l0.length : Int).toNat)) = ji76 := shl_small hji76
       have hji76p : (IntKind.i64.wrap (1 * 2 ^ min l0.length 64)) = ji76 := hji76_
       have hji76q : (l0.length : Int) ≤ 64 → (IntKind.i64.wrap (1 * 2 ^ l0.length)) = ji76 := hji76z
       have hji76r : (IntKind.i64.wrap (2 ^ min l0.length 64)) = ji76 := by have h_ := hji76p; rw [Int.one_mul] at h_; exact h_
       have hji76s : (l0.length : Int) ≤ 64 → (IntKind.i64.wrap (2 ^ l0.length)) = ji76 := fun hle_ => by have h_ := hji76q hle_; rw [Int.one_mul] at h_; exact h_
       have hji76u : (IntKind.i64.wrap (2 ^ min (l0.length : Int).toNat 64)) = ji76 := by have h_ := hji76_; rw [Int.one_mul] at h_; exact h_
       have hji76v : (l0.length : Int) ≤ 64 → (IntKind.i64.wrap (2 ^ (l0.length : Int).toNat)) = ji76 := fun hle_ => by have h_ := hji76z hle_; rw [Int.one_mul] at h_; exact h_
       have hji76y : (wrap64 (1 * 2 ^ min (l0.length : Int).toNat 64)) = ji76 := (i64_w _).symm.trans hji76_
       have hji76x : (l0.length : Int) ≤ 64 → (wrap64 (1 * 2 ^ (l0.length : Int).toNat)) = ji76 := fun h_ => (i64_w _).symm.trans (hji76z h_)
       have H' := Aside0.mk H
       clear H
       go_wp2
       go_loopg [88] k2 (fun kq v88 w' => ∃ (x88_3 : Int) (x637000_3 : Int) (x637001_3 : Int) (x638000_3 : Int) (x638001_3 : Int), v88 = .int .i64 x88_3 ∧ Aside0 (comfitlaw04_PacketsSum.l1 kq l0 a1 a2 ji76 x88_3 x636000_2 x636001_2 x637000_3 x637001_3 x638000_3 x638001_3 = some r) ∧ Aside0 (kq ≤ k2) ∧ Aside0 (w'.heap[gb635]? = some (.cells #[.int .i64 x636000_2, .int .i64 x636001_2] 25 (0, 0))) ∧ Aside0 (w'.heap[gb636]? = some (.cells #[.int .i64 x637000_3, .int .i64 x637001_3] 25 (0, 0))) ∧ Aside0 (w'.heap[gb637]? = some (.cells #[.int .i64 x638000_3, .int .i64 x638001_3] 25 (0, 0))) ∧ Aside0 (Below w.heap.size w w'))
       case atStart => exact ⟨(0), (0), (1), (0), (1), (by first | rfl | (simp; done) | (simp [*]; done)), H', ⟨Nat.le_refl _⟩, ⟨by (with_reducible repeat (first | refine blk_drewN ?_ _ | refine blk_drew ?_ | refine blk_alloc ?_ _)); exact BK635.out⟩, ⟨by (with_reducible repeat (first | refine blk_drewN ?_ _ | refine blk_drew ?_ | refine blk_alloc ?_ _)); exact BK636.out⟩, ⟨by (with_reducible repeat (first | refine blk_drewN ?_ _ | refine blk_drew ?_ | refine blk_alloc ?_ _)); exact BK637.out⟩, ⟨by repeat (first | (with_reducible first | exact HB.out | apply below_alloc | apply pw_below_drewN | apply below_drew1 | refine below_set ?_ GE635.out | refine below_set ?_ GE636.out | refine below_set ?_ GE637.out) | exact HB.out)⟩⟩
       case round =>
        clear H'
        try clear c1
        try clear c2
        try clear p2
        try clear c3
        try clear c4
        try clear c5
        try clear c6
        try clear p6
        try clear c7
        try clear c7b0
        try clear c8
        try clear c11
        try clear c11b0
        try clear c11b1
        try clear c16
        try clear c21
        try clear c22
        try clear c24
        try clear c26
        try clear c27
        try clear c28
        try clear c30
        try clear c33
        try clear c33b0
        try clear c34
        try clear c34b0
        try clear c34b1
        try clear c36
        try clear c36b0
        try clear c36b1
        try clear c37
        try clear c44
        try clear c45
        try clear c46
        try clear c48
        try clear c48b0
        try clear c48b1
        try clear c50
        try clear c51
        try clear c52
        try clear c55
        try clear c57
        try clear c58
        try clear c59
        try clear c60
        try clear c62
        try clear c63
        try clear p64
        try clear c67
        try clear c68
        try clear c69
        try clear c71
        try clear c72
        try clear hcz17_0
        try clear hcz17_1
        try clear hcz23_0
        try clear hcz23_1
        try clear hcz29_0
        try clear hcz29_1
        try clear hcz31_0
        try clear hcz31_1
        try clear hcz32_0
        try clear hcz32_1
        try clear hcz47_0
        try clear hcz47_1
        try clear hcz53_0
        try clear hcz53_1
        try clear hcz61_0
        try clear hcz61_1
        try clear hcz64_0
        try clear hcz64_1
        try clear hcz66_0
        try clear hcz66_1
        try clear hcz70_0
        try clear hcz70_1
        try clear hcz73_0
        try clear hcz73_1
        try clear hcz75_0
        try clear hcz75_1
        try clear hfz17_0
        try clear hfz17_1
        try clear hfz23_0
        try clear hfz23_1
        try clear hfz29_0
        try clear hfz29_1
        try clear hfz31_0
        try clear hfz31_1
        try clear hfz32_0
        try clear hfz32_1
        try clear hfz47_0
        try clear hfz47_1
        try clear hfz53_0
        try clear hfz53_1
        try clear hfz61_0
        try clear hfz61_1
        try clear hfz64_0
        try clear hfz64_1
        try clear hfz66_0
        try clear hfz66_1
        try clear hfz70_0
        try clear hfz70_1
        try clear hfz73_0
        try clear hfz73_1
        try clear hfz75_0
        try clear hfz75_1
        try clear p2
        try clear p6
        obtain ⟨x88_3, x637000_3, x637001_3, x638000_3, x638001_3, rfl, HA, HK3, BK635, BK636, BK637, HB⟩ := hrel
        cases gk with
        | zero => exact absurd HA.out (by simp [comfitlaw04_PacketsSum.l1])
        | succ k3 =>
         have H := HA.out
         clear HA
         simp only [comfitlaw04_PacketsSum.l1] at H
         by_cases c77 : x88_3 < ji76
         ·rw [if_pos c77] at H
          have c77b0 : decide (x88_3 < ji76) = true := decide_eq_true c77
          clear c77
          replace H := Option.bind_eq_some_iff.mp H
          obtain ⟨t649, A780, H⟩ := H
          replace H : ((packets_Exact.f k3 t649 x88_3 a2).bind fun bt652 => (if bt652.2.2 = 0 then ((comfitlaw04_right.f bt652.1 bt652.2.1 1).bind fun t656 => (comfitlaw04_PacketsSum.j4 k3 l0 a1 a2 x88_3 ji76 x88_3 (!t656) x636000_2 x636001_2 x637000_3 x637001_3 x638000_3 x638001_3 bt652.1 bt652.2.1)) else (comfitlaw04_PacketsSum.j4 k3 l0 a1 a2 x88_3 ji76 x88_3 true x636000_2 x636001_2 x637000_3 x637001_3 x638000_3 x638001_3 bt652.1 bt652.2.1))) = some r := H
          have A78 := Aside0.mk A780
          clear A780
          replace H := Option.bind_eq_some_iff.mp H
          obtain ⟨⟨t652, t653, t654⟩, A790, H⟩ := H
          replace H : (if t654 = 0 then ((comfitlaw04_right.f t652 t653 1).bind fun t656 => (comfitlaw04_PacketsSum.j4 k3 l0 a1 a2 x88_3 ji76 x88_3 (!t656) x636000_2 x636001_2 x637000_3 x637001_3 x638000_3 x638001_3 t652 t653)) else (comfitlaw04_PacketsSum.j4 k3 l0 a1 a2 x88_3 ji76 x88_3 true x636000_2 x636001_2 x637000_3 x637001_3 x638000_3 x638001_3 t652 t653)) = some r := H
          have A79 := Aside0.mk A790
          clear A790
          have HC80 := Aside0.mk H
          clear H
          go_upto_region 21 with (first | ((with_reducible refine gate_callee (f := 22) rfl ?_); refine goesL_ (some 93) rfl rfl Try.func22 (by kernel_rfl) rfl #[.slice A0 l0.length c0] rfl al_ ?_; (with_reducible refine (comfitlaw04_list.calls _ _ l0 t649 _ ?side1 ?side2 A78.out).mono ?_); (case side1 => exact kc_ (Kd.C_below HR0.out HB.out)); (case side2 => exact HC0.out); rintro e w81 ⟨v650, rfl, ho0, hb⟩; refine ⟨_, rfl, ?_⟩; have n0_ := Aside0.mk (Kd.R_lower ho0 (below_size (hb_ HB.out))); have n1_ := Aside0.mk (bkb_ BK635.out hb); have n2_ := Aside0.mk (bkb_ BK636.out hb); have n3_ := Aside0.mk (bkb_ BK637.out hb); have n4_ := Aside0.mk (below_step (hb_ HB.out) hb); clear BK635; clear BK636; clear BK637; clear HB; have HO651 := n0_; have BK635 := n1_; have BK636 := n2_; have BK637 := n3_; have HB := n4_; clear n0_ n1_ n2_ n3_ n4_; (try clear hb); (try clear hb2); (try clear hk); (try clear hi); (try clear ho0); obtain ⟨Ao82, co82, eo82⟩ := Kd.R_slice HO651.out; subst eo82) | ((with_reducible refine gate_callee (f := 38) rfl ?_); refine goesL_ (some 96) rfl rfl Try.func38 (by kernel_rfl) rfl #[.slice Ao82 t649.length co82, .int .i64 x88_3, .int .i64 a2] rfl al_ ?_; (with_reducible refine (packets_Exact.calls k3 _ _ t649 x88_3 a2 t652 t653 t654 _ ?side1 ?side2 A79.out).mono ?_); (case side1 => exact kc_ (Kd.R_reads' HO651.out).2.2); (case side2 => exact (Kd.R_reads' HO651.out).2.1); rintro e w83 ⟨rfl, hb⟩; refine ⟨_, rfl, ?_⟩; have n0_ := Aside0.mk (Kd.R_below (kr_ (HO651.out)) hb); have n1_ := Aside0.mk (bkb_ BK635.out hb); have n2_ := Aside0.mk (bkb_ BK636.out hb); have n3_ := Aside0.mk (bkb_ BK637.out hb); have n4_ := Aside0.mk (below_step (hb_ HB.out) hb); clear HO651; clear BK635; clear BK636; clear BK637; clear HB; have HO651 := n0_; have BK635 := n1_; have BK636 := n2_; have BK637 := n3_; have HB := n4_; clear n0_ n1_ n2_ n3_ n4_; (try clear hb); (try clear hb2); (try clear hk); (try clear hi)) | ((with_reducible refine gate_dst (N := 17) rfl ?_); refine box_event ?hg (N := 17) ?hd (cs := #[.int .i64 0, .int .i64 0]) (t := 25) ?hr ?_; (case hd => rfl); (case hg => rfl); (case hr => first | (go_simp; done) | (go_simp; rfl)); intro gb655 hg w84 hbox hb; have n0_ := Aside0.mk (Kd.R_below (kr_ (HO651.out)) hb); have n1_ := Aside0.mk (bkb_ BK635.out hb); have n2_ := Aside0.mk (bkb_ BK636.out hb); have n3_ := Aside0.mk (bkb_ BK637.out hb); have n4_ := Aside0.mk (below_step (hb_ HB.out) hb); have n5_ := Aside0.mk (hbox); have n6_ := Aside0.mk ((by rw [hg]; exact (below_size (hb_ HB.out)) : w.heap.size ≤ gb655)); have n7_ := Aside0.mk ((by rw [hg]; exact (below_size (hb_ HB.out)) : w.heap.size ≤ gb655)); have n8_ := Aside0.mk ((by rw [hg]; exact Nat.ne_of_lt (bkl_ BK635.out) : gb635 ≠ gb655)); have n9_ := Aside0.mk ((by rw [hg]; exact Nat.ne_of_gt (bkl_ BK635.out) : gb655 ≠ gb635)); have n10_ := Aside0.mk ((by rw [hg]; exact Nat.ne_of_lt (bkl_ BK636.out) : gb636 ≠ gb655)); have n11_ := Aside0.mk ((by rw [hg]; exact Nat.ne_of_gt (bkl_ BK636.out) : gb655 ≠ gb636)); have n12_ := Aside0.mk ((by rw [hg]; exact Nat.ne_of_lt (bkl_ BK637.out) : gb637 ≠ gb655)); have n13_ := Aside0.mk ((by rw [hg]; exact Nat.ne_of_gt (bkl_ BK637.out) : gb655 ≠ gb637)); clear HO651; clear BK635; clear BK636; clear BK637; clear HB; have HO651 := n0_; have BK635 := n1_; have BK636 := n2_; have BK637 := n3_; have HB := n4_; have BK655 := n5_; have GW655 := n6_; have GE655 := n7_; have NB635_655 := n8_; have NB655_635 := n9_; have NB636_655 := n10_; have NB655_636 := n11_; have NB637_655 := n12_; have NB655_637 := n13_; clear n0_ n1_ n2_ n3_ n4_ n5_ n6_ n7_ n8_ n9_ n10_ n11_ n12_ n13_; clear hb hbox hg; have hnb85 := NB655_635.out; have hnc85 := NB635_655.out; have hnb86 := NB655_636.out; have hnc86 := NB636_655.out; have hnb87 := NB655_637.out; have hnc87 := NB637_655.out; have hcz88_0 : w84.cell? ⟨gb655, 0, none⟩ = some (.int .i64 0) := (blk_cell BK655.out 0).trans rfl; have hcz88_1 : w84.cell? ⟨gb655, 1, none⟩ = some (.int .i64 0) := (blk_cell BK655.out 1).trans rfl; have hfz88_0 := blk_frozen BK655.out 0; have hfz88_1 := blk_frozen BK655.out 1))
          (try simp only [Act.put, List.setIfInBounds_toArray, List.set_cons_zero, List.set_cons_succ])
          go_cut [105] (fun v105 wc => ∃ (kq : Nat) (x105_79 : Bool), v105 = .bool x105_79 ∧ Aside0 (comfitlaw04_PacketsSum.j4 kq l0 a1 a2 x88_3 ji76 x88_3 x105_79 x636000_2 x636001_2 x637000_3 x637001_3 x638000_3 x638001_3 t652 t653 = some r) ∧ Aside0 (kq ≤ k3) ∧ Aside0 (wc.heap[gb635]? = some (.cells #[.int .i64 x636000_2, .int .i64 x636001_2] 25 (0, 0))) ∧ Aside0 (wc.heap[gb636]? = some (.cells #[.int .i64 x637000_3, .int .i64 x637001_3] 25 (0, 0))) ∧ Aside0 (wc.heap[gb637]? = some (.cells #[.int .i64 x638000_3, .int .i64 x638001_3] 25 (0, 0))) ∧ Aside0 (wc.heap[gb655]? = some (.cells #[.int .i64 t652, .int .i64 t653] 25 (0, 0))) ∧ Aside0 (Below w.heap.size w wc))
          case first =>
           have H := HC80.out
           clear HC80
           by_cases c89 : t654 = 0
           ·rw [if_pos c89] at H
            have c89b0 : (t654 == 0) = true := beq_iff_eq.mpr c89
            have c89b1 : (t654 != 0) = false := bne_eq_false_iff_eq.mpr c89
            clear c89
            (first | rw [c89b0] | (simp only [i64_w, i32_w]; rw [c89b0]) | skip)
            replace H := Option.bind_eq_some_iff.mp H
            obtain ⟨t656, A900, H⟩ := H
            replace H : (comfitlaw04_PacketsSum.j4 k3 l0 a1 a2 x88_3 ji76 x88_3 (!t656) x636000_2 x636001_2 x637000_3 x637001_3 x638000_3 x638001_3 t652 t653) = some r := H
            have A90 := Aside0.mk A900
            clear A900
            have H' := Aside0.mk H
            clear H
            have hnb91 := NB655_635.out
            have hnc91 := NB635_655.out
            have hnb92 := NB655_636.out
            have hnc92 := NB636_655.out
            have hnb93 := NB655_637.out
            have hnc93 := NB637_655.out
            have hcz94_0 : w84.cell? ⟨gb655, 0, none⟩ = some (.int .i64 0) := (blk_cell BK655.out 0).trans rfl
            have hcz94_1 : w84.cell? ⟨gb655, 1, none⟩ = some (.int .i64 0) := (blk_cell BK655.out 1).trans rfl
            have hfz94_0 := blk_frozen BK655.out 0
            have hfz94_1 := blk_frozen BK655.out 1
            go_wp2_with (first | (go_at_call 19; (with_reducible refine (comfitlaw04_right.calls t652 t653 1 t656 _ A90.out).mono ?_); rintro e w95 ⟨rfl, hb⟩; have n0_ := Aside0.mk (Kd.R_below (kr_ ((Kd.R_mono (Kd.R_far (p := ⟨gb655, 1, none⟩) (Kd.R_far (p := ⟨gb655, 0, none⟩) (Kd.R_types HO651.out BK655.out (by decide)) (fun _ hk => hk.2) (.int .i64 t652)) (fun _ hk => hk.2) (.int .i64 t653)) (fun _ h_ => h_.1)))) hb); have n1_ := Aside0.mk (blk_below (g := gb635) (o := .cells #[.int .i64 x636000_2, .int .i64 x636001_2] 25 (0, 0)) (by (with_reducible repeat (first | refine blk_drewN ?_ _ | refine blk_drew ?_ | refine blk_alloc ?_ _)); refine blk_far ?_ NB635_655.out _; (with_reducible repeat (first | refine blk_drewN ?_ _ | refine blk_drew ?_ | refine blk_alloc ?_ _)); refine blk_far ?_ NB635_655.out _; (with_reducible repeat (first | refine blk_drewN ?_ _ | refine blk_drew ?_ | refine blk_alloc ?_ _)); exact BK635.out) hb); have n2_ := Aside0.mk (blk_below (g := gb636) (o := .cells #[.int .i64 x637000_3, .int .i64 x637001_3] 25 (0, 0)) (by (with_reducible repeat (first | refine blk_drewN ?_ _ | refine blk_drew ?_ | refine blk_alloc ?_ _)); refine blk_far ?_ NB636_655.out _; (with_reducible repeat (first | refine blk_drewN ?_ _ | refine blk_drew ?_ | refine blk_alloc ?_ _)); refine blk_far ?_ NB636_655.out _; (with_reducible repeat (first | refine blk_drewN ?_ _ | refine blk_drew ?_ | refine blk_alloc ?_ _)); exact BK636.out) hb); have n3_ := Aside0.mk (blk_below (g := gb637) (o := .cells #[.int .i64 x638000_3, .int .i64 x638001_3] 25 (0, 0)) (by (with_reducible repeat (first | refine blk_drewN ?_ _ | refine blk_drew ?_ | refine blk_alloc ?_ _)); refine blk_far ?_ NB637_655.out _; (with_reducible repeat (first | refine blk_drewN ?_ _ | refine blk_drew ?_ | refine blk_alloc ?_ _)); refine blk_far ?_ NB637_655.out _; (with_reducible repeat (first | refine blk_drewN ?_ _ | refine blk_drew ?_ | refine blk_alloc ?_ _)); exact BK637.out) hb); have n4_ := Aside0.mk (blk_below (g := gb655) (o := .cells #[.int .i64 t652, .int .i64 t653] 25 (0, 0)) (by (with_reducible repeat (first | refine blk_drewN ?_ _ | refine blk_drew ?_ | refine blk_alloc ?_ _)); refine blk_put (cs := #[.int .i64 t652, .int .i64 0]) ?_ 1 _ rfl; (with_reducible repeat (first | refine blk_drewN ?_ _ | refine blk_drew ?_ | refine blk_alloc ?_ _)); refine blk_put (cs := #[.int .i64 0, .int .i64 0]) ?_ 0 _ rfl; (with_reducible repeat (first | refine blk_drewN ?_ _ | refine blk_drew ?_ | refine blk_alloc ?_ _)); exact BK655.out) hb); have n5_ := Aside0.mk (below_step (hb_ HB.out) hb); clear HO651; clear BK635; clear BK636; clear BK637; clear BK655; clear HB; have HO651 := n0_; have BK635 := n1_; have BK636 := n2_; have BK637 := n3_; have BK655 := n4_; have HB := n5_; clear n0_ n1_ n2_ n3_ n4_ n5_; (try clear hb); (try clear hb2); (try clear hk); (try clear hi)))
            go_meet
            case rel => exact ⟨_, (!t656), (by first | rfl | (simp; done) | (simp [*]; done)), H', ⟨by have := HJ3.out; have := HK2.out; have := HK3.out; first | omega | exact Nat.le_refl _⟩, ⟨by (with_reducible repeat (first | refine blk_drewN ?_ _ | refine blk_drew ?_ | refine blk_alloc ?_ _)); exact BK635.out⟩, ⟨by (with_reducible repeat (first | refine blk_drewN ?_ _ | refine blk_drew ?_ | refine blk_alloc ?_ _)); exact BK636.out⟩, ⟨by (with_reducible repeat (first | refine blk_drewN ?_ _ | refine blk_drew ?_ | refine blk_alloc ?_ _)); exact BK637.out⟩, ⟨by (with_reducible repeat (first | refine blk_drewN ?_ _ | refine blk_drew ?_ | refine blk_alloc ?_ _)); exact BK655.out⟩, ⟨by repeat (first | (with_reducible first | exact HB.out | apply below_alloc | apply pw_below_drewN | apply below_drew1 | refine below_set ?_ GE635.out | refine below_set ?_ GE636.out | refine below_set ?_ GE637.out | refine below_set ?_ GE655.out) | exact HB.out)⟩⟩
           ·rw [if_neg c89] at H
            have c89b0 : (t654 == 0) = false := beq_eq_false_iff_ne.mpr c89
            have c89b1 : (t654 != 0) = true := bne_iff_ne.mpr c89
            (first | rw [c89b0] | (simp only [i64_w, i32_w]; rw [c89b0]) | skip)
            have H' := Aside0.mk H
            clear H
            go_wp2
            go_meet
            case rel => exact ⟨_, (true), (by first | rfl | (simp; done) | (simp [*]; done)), H', ⟨by have := HJ3.out; have := HK2.out; have := HK3.out; first | omega | exact Nat.le_refl _⟩, ⟨by (with_reducible repeat (first | refine blk_drewN ?_ _ | refine blk_drew ?_ | refine blk_alloc ?_ _)); refine blk_far ?_ NB635_655.out _; (with_reducible repeat (first | refine blk_drewN ?_ _ | refine blk_drew ?_ | refine blk_alloc ?_ _)); refine blk_far ?_ NB635_655.out _; (with_reducible repeat (first | refine blk_drewN ?_ _ | refine blk_drew ?_ | refine blk_alloc ?_ _)); exact BK635.out⟩, ⟨by (with_reducible repeat (first | refine blk_drewN ?_ _ | refine blk_drew ?_ | refine blk_alloc ?_ _)); refine blk_far ?_ NB636_655.out _; (with_reducible repeat (first | refine blk_drewN ?_ _ | refine blk_drew ?_ | refine blk_alloc ?_ _)); refine blk_far ?_ NB636_655.out _; (with_reducible repeat (first | refine blk_drewN ?_ _ | refine blk_drew ?_ | refine blk_alloc ?_ _)); exact BK636.out⟩, ⟨by (with_reducible repeat (first | refine blk_drewN ?_ _ | refine blk_drew ?_ | refine blk_alloc ?_ _)); refine blk_far ?_ NB637_655.out _; (with_reducible repeat (first | refine blk_drewN ?_ _ | refine blk_drew ?_ | refine blk_alloc ?_ _)); refine blk_far ?_ NB637_655.out _; (with_reducible repeat (first | refine blk_drewN ?_ _ | refine blk_drew ?_ | refine blk_alloc ?_ _)); exact BK637.out⟩, ⟨by (with_reducible repeat (first | refine blk_drewN ?_ _ | refine blk_drew ?_ | refine blk_alloc ?_ _)); refine blk_put (cs := #[.int .i64 t652, .int .i64 0]) ?_ 1 _ rfl; (with_reducible repeat (first | refine blk_drewN ?_ _ | refine blk_drew ?_ | refine blk_alloc ?_ _)); refine blk_put (cs := #[.int .i64 0, .int .i64 0]) ?_ 0 _ rfl; (with_reducible repeat (first | refine blk_drewN ?_ _ | refine blk_drew ?_ | refine blk_alloc ?_ _)); exact BK655.out⟩, ⟨by repeat (first | (with_reducible first | exact HB.out | apply below_alloc | apply pw_below_drewN | apply below_drew1 | refine below_set ?_ GE635.out | refine below_set ?_ GE636.out | refine below_set ?_ GE637.out | refine below_set ?_ GE655.out) | exact HB.out)⟩⟩
          case rest =>
           clear HC80
           try clear c1
           try clear c2
           try clear p2
           try clear c3
           try clear c4
           try clear c5
           try clear c6
           try clear p6
           try clear c7
           try clear c7b0
           try clear c8
           try clear c9
           try clear c11
           try clear c11b0
           try clear c11b1
           try clear c16
           try clear c21
           try clear c22
           try clear c24
           try clear c26
           try clear c27
           try clear c28
           try clear c30
           try clear c33
           try clear c33b0
           try clear c34
           try clear c34b0
           try clear c34b1
           try clear c36
           try clear c36b0
           try clear c36b1
           try clear c37
           try clear c38
           try clear c44
           try clear c45
           try clear c46
           try clear c48
           try clear c48b0
           try clear c48b1
           try clear c50
           try clear c51
           try clear c52
           try clear c55
           try clear c57
           try clear c58
           try clear c59
           try clear c60
           try clear c62
           try clear c63
           try clear p64
           try clear c67
           try clear c68
           try clear c69
           try clear c71
           try clear c72
           try clear c77
           try clear c77b0
           try clear c85
           try clear c86
           try clear c87
           try clear c89
           try clear c89b0
           try clear c89b1
           try clear c91
           try clear c92
           try clear c93
           try clear hcz17_0
           try clear hcz17_1
           try clear hcz23_0
           try clear hcz23_1
           try clear hcz29_0
           try clear hcz29_1
           try clear hcz31_0
           try clear hcz31_1
           try clear hcz32_0
           try clear hcz32_1
           try clear hcz47_0
           try clear hcz47_1
           try clear hcz53_0
           try clear hcz53_1
           try clear hcz61_0
           try clear hcz61_1
           try clear hcz64_0
           try clear hcz64_1
           try clear hcz66_0
           try clear hcz66_1
           try clear hcz70_0
           try clear hcz70_1
           try clear hcz73_0
           try clear hcz73_1
           try clear hcz75_0
           try clear hcz75_1
           try clear hcz88_0
           try clear hcz88_1
           try clear hcz94_0
           try clear hcz94_1
           try clear hfz17_0
           try clear hfz17_1
           try clear hfz23_0
           try clear hfz23_1
           try clear hfz29_0
           try clear hfz29_1
           try clear hfz31_0
           try clear hfz31_1
           try clear hfz32_0
           try clear hfz32_1
           try clear hfz47_0
           try clear hfz47_1
           try clear hfz53_0
           try clear hfz53_1
           try clear hfz61_0
           try clear hfz61_1
           try clear hfz64_0
           try clear hfz64_1
           try clear hfz66_0
           try clear hfz66_1
           try clear hfz70_0
           try clear hfz70_1
           try clear hfz73_0
           try clear hfz73_1
           try clear hfz75_0
           try clear hfz75_1
           try clear hfz88_0
           try clear hfz88_1
           try clear hfz94_0
           try clear hfz94_1
           try clear p2
           try clear p6
           try clear p64
           obtain ⟨kq, x105_79, rfl, HA, HJ79, BK635, BK636, BK637, BK655, HB⟩ := hcut
           cases kq with
           | zero => exact absurd HA.out (by simp [comfitlaw04_PacketsSum.j4])
           | succ kj79 =>
            have H := HA.out
            clear HA
            simp only [comfitlaw04_PacketsSum.j4] at H
            by_cases c96 : x105_79 = true
            ·subst c96
             have H1 : (some false) = some r := by rw [if_pos rfl] at H; exact H
             clear H
             have H := H1
             clear H1
             obtain rfl := Option.some.inj H
             go_wp2
             go_ret
             exact ⟨by first | rfl | (simp [errW_none, errW_some] <;> rfl) | (simp only [← hji76]; first | rfl | (simp [errW_none, errW_some] <;> rfl)) | (simp [*, errW_none, errW_some] <;> rfl), by repeat (first | (with_reducible first | exact HB.out | apply below_alloc | apply pw_below_drewN | apply below_drew1 | refine below_set ?_ GE635.out | refine below_set ?_ GE636.out | refine below_set ?_ GE637.out | refine below_set ?_ GE655.out) | exact HB.out)⟩
            ·replace c96 := Bool.eq_false_iff.mpr c96
             subst c96
             have H1 : ((comfitlaw04_added.f kj79 x638000_3 x638001_3 t652 t653 false).bind fun bt657 => (if bt657.2.2 = true then (if (Go.bits .and .i64 x88_3 a1) = a1 then ((comfitlaw04_added.f kj79 x637000_3 x637001_3 t652 t653 false).bind fun bt660 => (if bt660.2.2 = true then (comfitlaw04_PacketsSum.l1 kj79 l0 a1 a2 ji76 (wrap64 (x88_3 + 1)) x636000_2 x636001_2 bt660.1 bt660.2.1 bt657.1 bt657.2.1) else (some false))) else (comfitlaw04_PacketsSum.l1 kj79 l0 a1 a2 ji76 (wrap64 (x88_3 + 1)) x636000_2 x636001_2 x637000_3 x637001_3 bt657.1 bt657.2.1)) else (some false))) = some r := by rw [if_neg (show ¬ (false = true) by decide)] at H; exact H
             clear H
             have H := H1
             clear H1
             replace H := Option.bind_eq_some_iff.mp H
             obtain ⟨⟨t657, t658, t659⟩, A970, H⟩ := H
             replace H : (if t659 = true then (if (Go.bits .and .i64 x88_3 a1) = a1 then ((comfitlaw04_added.f kj79 x637000_3 x637001_3 t652 t653 false).bind fun bt660 => (if bt660.2.2 = true then (comfitlaw04_PacketsSum.l1 kj79 l0 a1 a2 ji76 (wrap64 (x88_3 + 1)) x636000_2 x636001_2 bt660.1 bt660.2.1 t657 t658) else (some false))) else (comfitlaw04_PacketsSum.l1 kj79 l0 a1 a2 ji76 (wrap64 (x88_3 + 1)) x636000_2 x636001_2 x637000_3 x637001_3 t657 t658)) else (some false)) = some r := H
             have A97 := Aside0.mk A970
             clear A970
             by_cases c98 : t659 = true
             ·subst c98
              have H1 : (if (Go.bits .and .i64 x88_3 a1) = a1 then ((comfitlaw04_added.f kj79 x637000_3 x637001_3 t652 t653 false).bind fun bt660 => (if bt660.2.2 = true then (comfitlaw04_PacketsSum.l1 kj79 l0 a1 a2 ji76 (wrap64 (x88_3 + 1)) x636000_2 x636001_2 bt660.1 bt660.2.1 t657 t658) else (some false))) else (comfitlaw04_PacketsSum.l1 kj79 l0 a1 a2 ji76 (wrap64 (x88_3 + 1)) x636000_2 x636001_2 x637000_3 x637001_3 t657 t658)) = some r := by rw [if_pos rfl] at H; exact H
              clear H
              have H := H1
              clear H1
              by_cases c99 : (Go.bits .and .i64 x88_3 a1) = a1
              ·rw [if_pos c99] at H
               have c99b0 : ((Go.bits .and .i64 x88_3 a1) == a1) = true := beq_iff_eq.mpr c99
               have c99b1 : ((Go.bits .and .i64 x88_3 a1) != a1) = false := bne_eq_false_iff_eq.mpr c99
               clear c99
               replace H := Option.bind_eq_some_iff.mp H
               obtain ⟨⟨t660, t661, t662⟩, A1000, H⟩ := H
               replace H : (if t662 = true then (comfitlaw04_PacketsSum.l1 kj79 l0 a1 a2 ji76 (wrap64 (x88_3 + 1)) x636000_2 x636001_2 t660 t661 t657 t658) else (some false)) = some r := H
               have A100 := Aside0.mk A1000
               clear A1000
               by_cases c101 : t662 = true
               ·subst c101
                have H1 : (comfitlaw04_PacketsSum.l1 kj79 l0 a1 a2 ji76 (wrap64 (x88_3 + 1)) x636000_2 x636001_2 t660 t661 t657 t658) = some r := by rw [if_pos rfl] at H; exact H
                clear H
                have H := H1
                clear H1
                have H' := Aside0.mk H
                clear H
                have hnb102 := NB637_635.out
                have hnc102 := NB635_637.out
                have hnb103 := NB637_636.out
                have hnc103 := NB636_637.out
                have hnb104 := NB637_655.out
                have hnc104 := NB655_637.out
                have hcz105_0 : wc.cell? ⟨gb637, 0, none⟩ = some (.int .i64 x638000_3) := (blk_cell BK637.out 0).trans rfl
                have hcz105_1 : wc.cell? ⟨gb637, 1, none⟩ = some (.int .i64 x638001_3) := (blk_cell BK637.out 1).trans rfl
                have hfz105_0 := blk_frozen BK637.out 0
                have hfz105_1 := blk_frozen BK637.out 1
                have hnb106 := NB655_635.out
                have hnc106 := NB635_655.out
                have hnb107 := NB655_636.out
                have hnc107 := NB636_655.out
                have hcz108_0 : wc.cell? ⟨gb655, 0, none⟩ = some (.int .i64 t652) := (blk_cell BK655.out 0).trans rfl
                have hcz108_1 : wc.cell? ⟨gb655, 1, none⟩ = some (.int .i64 t653) := (blk_cell BK655.out 1).trans rfl
                have hfz108_0 := blk_frozen BK655.out 0
                have hfz108_1 := blk_frozen BK655.out 1
                go_wp2_with (first | ((with_reducible refine gate_callee (f := 24) rfl ?_); refine goesL_ (some 109) rfl rfl Try.func24 (by kernel_rfl) rfl #[.agg #[.int .i64 x638000_3, .int .i64 x638001_3], .agg #[.int .i64 t652, .int .i64 t653], .bool false] rfl al_ ?_; (with_reducible refine (comfitlaw04_added.calls kj79 x638000_3 x638001_3 t652 t653 false t657 t658 true _ A97.out).mono ?_); rintro e w109 ⟨rfl, hb⟩; refine ⟨_, rfl, ?_⟩; have n0_ := Aside0.mk (bkb_ BK635.out hb); have n1_ := Aside0.mk (bkb_ BK636.out hb); have n2_ := Aside0.mk (bkb_ BK637.out hb); have n3_ := Aside0.mk (bkb_ BK655.out hb); have n4_ := Aside0.mk (below_step (hb_ HB.out) hb); clear BK635; clear BK636; clear BK637; clear BK655; clear HB; have BK635 := n0_; have BK636 := n1_; have BK637 := n2_; have BK655 := n3_; have HB := n4_; clear n0_ n1_ n2_ n3_ n4_; (try clear hb); (try clear hb2); (try clear hk); (try clear hi); have hcz110_0 : w109.cell? ⟨gb637, 0, none⟩ = some (.int .i64 x638000_3) := (blk_cell BK637.out 0).trans rfl; have hcz110_1 : w109.cell? ⟨gb637, 1, none⟩ = some (.int .i64 x638001_3) := (blk_cell BK637.out 1).trans rfl; have hfz110_0 := blk_frozen BK637.out 0; have hfz110_1 := blk_frozen BK637.out 1; have hnb111 := NB636_635.out; have hnc111 := NB635_636.out; have hcz112_0 : w109.cell? ⟨gb636, 0, none⟩ = some (.int .i64 x637000_3) := (blk_cell BK636.out 0).trans rfl; have hcz112_1 : w109.cell? ⟨gb636, 1, none⟩ = some (.int .i64 x637001_3) := (blk_cell BK636.out 1).trans rfl; have hfz112_0 := blk_frozen BK636.out 0; have hfz112_1 := blk_frozen BK636.out 1; have hcz113_0 : w109.cell? ⟨gb655, 0, none⟩ = some (.int .i64 t652) := (blk_cell BK655.out 0).trans rfl; have hcz113_1 : w109.cell? ⟨gb655, 1, none⟩ = some (.int .i64 t653) := (blk_cell BK655.out 1).trans rfl; have hfz113_0 := blk_frozen BK655.out 0; have hfz113_1 := blk_frozen BK655.out 1) | ((with_reducible refine gate_callee (f := 24) rfl ?_); refine goesL_ (some 122) rfl rfl Try.func24 (by kernel_rfl) rfl #[.agg #[.int .i64 x637000_3, .int .i64 x637001_3], .agg #[.int .i64 t652, .int .i64 t653], .bool false] rfl al_ ?_; (with_reducible refine (comfitlaw04_added.calls kj79 x637000_3 x637001_3 t652 t653 false t660 t661 true _ A100.out).mono ?_); rintro e w114 ⟨rfl, hb⟩; refine ⟨_, rfl, ?_⟩; have n0_ := Aside0.mk (blk_below (g := gb635) (o := .cells #[.int .i64 x636000_2, .int .i64 x636001_2] 25 (0, 0)) (by (with_reducible repeat (first | refine blk_drewN ?_ _ | refine blk_drew ?_ | refine blk_alloc ?_ _)); refine blk_far ?_ NB635_637.out _; (with_reducible repeat (first | refine blk_drewN ?_ _ | refine blk_drew ?_ | refine blk_alloc ?_ _)); refine blk_far ?_ NB635_637.out _; (with_reducible repeat (first | refine blk_drewN ?_ _ | refine blk_drew ?_ | refine blk_alloc ?_ _)); exact BK635.out) hb); have n1_ := Aside0.mk (blk_below (g := gb636) (o := .cells #[.int .i64 x637000_3, .int .i64 x637001_3] 25 (0, 0)) (by (with_reducible repeat (first | refine blk_drewN ?_ _ | refine blk_drew ?_ | refine blk_alloc ?_ _)); refine blk_far ?_ NB636_637.out _; (with_reducible repeat (first | refine blk_drewN ?_ _ | refine blk_drew ?_ | refine blk_alloc ?_ _)); refine blk_far ?_ NB636_637.out _; (with_reducible repeat (first | refine blk_drewN ?_ _ | refine blk_drew ?_ | refine blk_alloc ?_ _)); exact BK636.out) hb); have n2_ := Aside0.mk (blk_below (g := gb637) (o := .cells #[.int .i64 t657, .int .i64 t658] 25 (0, 0)) (by (with_reducible repeat (first | refine blk_drewN ?_ _ | refine blk_drew ?_ | refine blk_alloc ?_ _)); refine blk_put (cs := #[.int .i64 t657, .int .i64 x638001_3]) ?_ 1 _ rfl; (with_reducible repeat (first | refine blk_drewN ?_ _ | refine blk_drew ?_ | refine blk_alloc ?_ _)); refine blk_put (cs := #[.int .i64 x638000_3, .int .i64 x638001_3]) ?_ 0 _ rfl; (with_reducible repeat (first | refine blk_drewN ?_ _ | refine blk_drew ?_ | refine blk_alloc ?_ _)); exact BK637.out) hb); have n3_ := Aside0.mk (blk_below (g := gb655) (o := .cells #[.int .i64 t652, .int .i64 t653] 25 (0, 0)) (by (with_reducible repeat (first | refine blk_drewN ?_ _ | refine blk_drew ?_ | refine blk_alloc ?_ _)); refine blk_far ?_ NB655_637.out _; (with_reducible repeat (first | refine blk_drewN ?_ _ | refine blk_drew ?_ | refine blk_alloc ?_ _)); refine blk_far ?_ NB655_637.out _; (with_reducible repeat (first | refine blk_drewN ?_ _ | refine blk_drew ?_ | refine blk_alloc ?_ _)); exact BK655.out) hb); have n4_ := Aside0.mk (below_step (hb_ HB.out) hb); clear BK635; clear BK636; clear BK637; clear BK655; clear HB; have BK635 := n0_; have BK636 := n1_; have BK637 := n2_; have BK655 := n3_; have HB := n4_; clear n0_ n1_ n2_ n3_ n4_; (try clear hb); (try clear hb2); (try clear hk); (try clear hi); have hcz115_0 : w114.cell? ⟨gb636, 0, none⟩ = some (.int .i64 x637000_3) := (blk_cell BK636.out 0).trans rfl; have hcz115_1 : w114.cell? ⟨gb636, 1, none⟩ = some (.int .i64 x637001_3) := (blk_cell BK636.out 1).trans rfl; have hfz115_0 := blk_frozen BK636.out 0; have hfz115_1 := blk_frozen BK636.out 1))
                go_roundg kj79
                case measure => have := HJ3.out; have := HK2.out; have := HK3.out; have := HJ79.out; omega
                case rel => exact ⟨(wrap64 (x88_3 + 1)), (t660), (t661), (t657), (t658), (by first | rfl | (simp; done) | (simp [*]; done)), H', ⟨by have := HJ3.out; have := HK2.out; have := HK3.out; have := HJ79.out; omega⟩, ⟨by (with_reducible repeat (first | refine blk_drewN ?_ _ | refine blk_drew ?_ | refine blk_alloc ?_ _)); refine blk_far ?_ NB635_636.out _; (with_reducible repeat (first | refine blk_drewN ?_ _ | refine blk_drew ?_ | refine blk_alloc ?_ _)); refine blk_far ?_ NB635_636.out _; (with_reducible repeat (first | refine blk_drewN ?_ _ | refine blk_drew ?_ | refine blk_alloc ?_ _)); exact BK635.out⟩, ⟨by (with_reducible repeat (first | refine blk_drewN ?_ _ | refine blk_drew ?_ | refine blk_alloc ?_ _)); refine blk_put (cs := #[.int .i64 t660, .int .i64 x637001_3]) ?_ 1 _ rfl; (with_reducible repeat (first | refine blk_drewN ?_ _ | refine blk_drew ?_ | refine blk_alloc ?_ _)); refine blk_put (cs := #[.int .i64 x637000_3, .int .i64 x637001_3]) ?_ 0 _ rfl; (with_reducible repeat (first | refine blk_drewN ?_ _ | refine blk_drew ?_ | refine blk_alloc ?_ _)); exact BK636.out⟩, ⟨by (with_reducible repeat (first | refine blk_drewN ?_ _ | refine blk_drew ?_ | refine blk_alloc ?_ _)); refine blk_far ?_ NB637_636.out _; (with_reducible repeat (first | refine blk_drewN ?_ _ | refine blk_drew ?_ | refine blk_alloc ?_ _)); refine blk_far ?_ NB637_636.out _; (with_reducible repeat (first | refine blk_drewN ?_ _ | refine blk_drew ?_ | refine blk_alloc ?_ _)); exact BK637.out⟩, ⟨by repeat (first | (with_reducible first | exact HB.out | apply below_alloc | apply pw_below_drewN | apply below_drew1 | refine below_set ?_ GE635.out | refine below_set ?_ GE636.out | refine below_set ?_ GE637.out | refine below_set ?_ GE655.out) | exact HB.out)⟩⟩
               ·replace c101 := Bool.eq_false_iff.mpr c101
                subst c101
                have H1 : (some false) = some r := by rw [if_neg (show ¬ (false = true) by decide)] at H; exact H
                clear H
                have H := H1
                clear H1
                obtain rfl := Option.some.inj H
                have hnb116 := NB637_635.out
                have hnc116 := NB635_637.out
                have hnb117 := NB637_636.out
                have hnc117 := NB636_637.out
                have hnb118 := NB637_655.out
                have hnc118 := NB655_637.out
                have hcz119_0 : wc.cell? ⟨gb637, 0, none⟩ = some (.int .i64 x638000_3) := (blk_cell BK637.out 0).trans rfl
                have hcz119_1 : wc.cell? ⟨gb637, 1, none⟩ = some (.int .i64 x638001_3) := (blk_cell BK637.out 1).trans rfl
                have hfz119_0 := blk_frozen BK637.out 0
                have hfz119_1 := blk_frozen BK637.out 1
                have hnb120 := NB655_635.out
                have hnc120 := NB635_655.out
                have hnb121 := NB655_636.out
                have hnc121 := NB636_655.out
                have hcz122_0 : wc.cell? ⟨gb655, 0, none⟩ = some (.int .i64 t652) := (blk_cell BK655.out 0).trans rfl
                have hcz122_1 : wc.cell? ⟨gb655, 1, none⟩ = some (.int .i64 t653) := (blk_cell BK655.out 1).trans rfl
                have hfz122_0 := blk_frozen BK655.out 0
                have hfz122_1 := blk_frozen BK655.out 1
                go_wp2_with (first | ((with_reducible refine gate_callee (f := 24) rfl ?_); refine goesL_ (some 109) rfl rfl Try.func24 (by kernel_rfl) rfl #[.agg #[.int .i64 x638000_3, .int .i64 x638001_3], .agg #[.int .i64 t652, .int .i64 t653], .bool false] rfl al_ ?_; (with_reducible refine (comfitlaw04_added.calls kj79 x638000_3 x638001_3 t652 t653 false t657 t658 true _ A97.out).mono ?_); rintro e w123 ⟨rfl, hb⟩; refine ⟨_, rfl, ?_⟩; have n0_ := Aside0.mk (bkb_ BK635.out hb); have n1_ := Aside0.mk (bkb_ BK636.out hb); have n2_ := Aside0.mk (bkb_ BK637.out hb); have n3_ := Aside0.mk (bkb_ BK655.out hb); have n4_ := Aside0.mk (below_step (hb_ HB.out) hb); clear BK635; clear BK636; clear BK637; clear BK655; clear HB; have BK635 := n0_; have BK636 := n1_; have BK637 := n2_; have BK655 := n3_; have HB := n4_; clear n0_ n1_ n2_ n3_ n4_; (try clear hb); (try clear hb2); (try clear hk); (try clear hi); have hcz124_0 : w123.cell? ⟨gb637, 0, none⟩ = some (.int .i64 x638000_3) := (blk_cell BK637.out 0).trans rfl; have hcz124_1 : w123.cell? ⟨gb637, 1, none⟩ = some (.int .i64 x638001_3) := (blk_cell BK637.out 1).trans rfl; have hfz124_0 := blk_frozen BK637.out 0; have hfz124_1 := blk_frozen BK637.out 1; have hnb125 := NB636_635.out; have hnc125 := NB635_636.out; have hcz126_0 : w123.cell? ⟨gb636, 0, none⟩ = some (.int .i64 x637000_3) := (blk_cell BK636.out 0).trans rfl; have hcz126_1 : w123.cell? ⟨gb636, 1, none⟩ = some (.int .i64 x637001_3) := (blk_cell BK636.out 1).trans rfl; have hfz126_0 := blk_frozen BK636.out 0; have hfz126_1 := blk_frozen BK636.out 1; have hcz127_0 : w123.cell? ⟨gb655, 0, none⟩ = some (.int .i64 t652) := (blk_cell BK655.out 0).trans rfl; have hcz127_1 : w123.cell? ⟨gb655, 1, none⟩ = some (.int .i64 t653) := (blk_cell BK655.out 1).trans rfl; have hfz127_0 := blk_frozen BK655.out 0; have hfz127_1 := blk_frozen BK655.out 1) | ((with_reducible refine gate_callee (f := 24) rfl ?_); refine goesL_ (some 122) rfl rfl Try.func24 (by kernel_rfl) rfl #[.agg #[.int .i64 x637000_3, .int .i64 x637001_3], .agg #[.int .i64 t652, .int .i64 t653], .bool false] rfl al_ ?_; (with_reducible refine (comfitlaw04_added.calls kj79 x637000_3 x637001_3 t652 t653 false t660 t661 false _ A100.out).mono ?_); rintro e w128 ⟨rfl, hb⟩; refine ⟨_, rfl, ?_⟩; have n0_ := Aside0.mk (blk_below (g := gb635) (o := .cells #[.int .i64 x636000_2, .int .i64 x636001_2] 25 (0, 0)) (by (with_reducible repeat (first | refine blk_drewN ?_ _ | refine blk_drew ?_ | refine blk_alloc ?_ _)); refine blk_far ?_ NB635_637.out _; (with_reducible repeat (first | refine blk_drewN ?_ _ | refine blk_drew ?_ | refine blk_alloc ?_ _)); refine blk_far ?_ NB635_637.out _; (with_reducible repeat (first | refine blk_drewN ?_ _ | refine blk_drew ?_ | refine blk_alloc ?_ _)); exact BK635.out) hb); have n1_ := Aside0.mk (blk_below (g := gb636) (o := .cells #[.int .i64 x637000_3, .int .i64 x637001_3] 25 (0, 0)) (by (with_reducible repeat (first | refine blk_drewN ?_ _ | refine blk_drew ?_ | refine blk_alloc ?_ _)); refine blk_far ?_ NB636_637.out _; (with_reducible repeat (first | refine blk_drewN ?_ _ | refine blk_drew ?_ | refine blk_alloc ?_ _)); refine blk_far ?_ NB636_637.out _; (with_reducible repeat (first | refine blk_drewN ?_ _ | refine blk_drew ?_ | refine blk_alloc ?_ _)); exact BK636.out) hb); have n2_ := Aside0.mk (blk_below (g := gb637) (o := .cells #[.int .i64 t657, .int .i64 t658] 25 (0, 0)) (by (with_reducible repeat (first | refine blk_drewN ?_ _ | refine blk_drew ?_ | refine blk_alloc ?_ _)); refine blk_put (cs := #[.int .i64 t657, .int .i64 x638001_3]) ?_ 1 _ rfl; (with_reducible repeat (first | refine blk_drewN ?_ _ | refine blk_drew ?_ | refine blk_alloc ?_ _)); refine blk_put (cs := #[.int .i64 x638000_3, .int .i64 x638001_3]) ?_ 0 _ rfl; (with_reducible repeat (first | refine blk_drewN ?_ _ | refine blk_drew ?_ | refine blk_alloc ?_ _)); exact BK637.out) hb); have n3_ := Aside0.mk (blk_below (g := gb655) (o := .cells #[.int .i64 t652, .int .i64 t653] 25 (0, 0)) (by (with_reducible repeat (first | refine blk_drewN ?_ _ | refine blk_drew ?_ | refine blk_alloc ?_ _)); refine blk_far ?_ NB655_637.out _; (with_reducible repeat (first | refine blk_drewN ?_ _ | refine blk_drew ?_ | refine blk_alloc ?_ _)); refine blk_far ?_ NB655_637.out _; (with_reducible repeat (first | refine blk_drewN ?_ _ | refine blk_drew ?_ | refine blk_alloc ?_ _)); exact BK655.out) hb); have n4_ := Aside0.mk (below_step (hb_ HB.out) hb); clear BK635; clear BK636; clear BK637; clear BK655; clear HB; have BK635 := n0_; have BK636 := n1_; have BK637 := n2_; have BK655 := n3_; have HB := n4_; clear n0_ n1_ n2_ n3_ n4_; (try clear hb); (try clear hb2); (try clear hk); (try clear hi); have hcz129_0 : w128.cell? ⟨gb636, 0, none⟩ = some (.int .i64 x637000_3) := (blk_cell BK636.out 0).trans rfl; have hcz129_1 : w128.cell? ⟨gb636, 1, none⟩ = some (.int .i64 x637001_3) := (blk_cell BK636.out 1).trans rfl; have hfz129_0 := blk_frozen BK636.out 0; have hfz129_1 := blk_frozen BK636.out 1))
                go_ret
                exact ⟨by first | rfl | (simp [errW_none, errW_some] <;> rfl) | (simp only [← hji76]; first | rfl | (simp [errW_none, errW_some] <;> rfl)) | (simp [*, errW_none, errW_some] <;> rfl), by repeat (first | (with_reducible first | exact HB.out | apply below_alloc | apply pw_below_drewN | apply below_drew1 | refine below_set ?_ GE635.out | refine below_set ?_ GE636.out | refine below_set ?_ GE637.out | refine below_set ?_ GE655.out) | exact HB.out)⟩
              ·rw [if_neg c99] at H
               have c99b0 : ((Go.bits .and .i64 x88_3 a1) == a1) = false := beq_eq_false_iff_ne.mpr c99
               have c99b1 : ((Go.bits .and .i64 x88_3 a1) != a1) = true := bne_iff_ne.mpr c99
               have H' := Aside0.mk H
               clear H
               have hnb130 := NB637_635.out
               have hnc130 := NB635_637.out
               have hnb131 := NB637_636.out
               have hnc131 := NB636_637.out
               have hnb132 := NB637_655.out
               have hnc132 := NB655_637.out
               have hcz133_0 : wc.cell? ⟨gb637, 0, none⟩ = some (.int .i64 x638000_3) := (blk_cell BK637.out 0).trans rfl
               have hcz133_1 : wc.cell? ⟨gb637, 1, none⟩ = some (.int .i64 x638001_3) := (blk_cell BK637.out 1).trans rfl
               have hfz133_0 := blk_frozen BK637.out 0
               have hfz133_1 := blk_frozen BK637.out 1
               have hnb134 := NB655_635.out
               have hnc134 := NB635_655.out
               have hnb135 := NB655_636.out
               have hnc135 := NB636_655.out
               have hcz136_0 : wc.cell? ⟨gb655, 0, none⟩ = some (.int .i64 t652) := (blk_cell BK655.out 0).trans rfl
               have hcz136_1 : wc.cell? ⟨gb655, 1, none⟩ = some (.int .i64 t653) := (blk_cell BK655.out 1).trans rfl
               have hfz136_0 := blk_frozen BK655.out 0
               have hfz136_1 := blk_frozen BK655.out 1
               go_wp2_with (first | ((with_reducible refine gate_callee (f := 24) rfl ?_); refine goesL_ (some 109) rfl rfl Try.func24 (by kernel_rfl) rfl #[.agg #[.int .i64 x638000_3, .int .i64 x638001_3], .agg #[.int .i64 t652, .int .i64 t653], .bool false] rfl al_ ?_; (with_reducible refine (comfitlaw04_added.calls kj79 x638000_3 x638001_3 t652 t653 false t657 t658 true _ A97.out).mono ?_); rintro e w137 ⟨rfl, hb⟩; refine ⟨_, rfl, ?_⟩; have n0_ := Aside0.mk (bkb_ BK635.out hb); have n1_ := Aside0.mk (bkb_ BK636.out hb); have n2_ := Aside0.mk (bkb_ BK637.out hb); have n3_ := Aside0.mk (bkb_ BK655.out hb); have n4_ := Aside0.mk (below_step (hb_ HB.out) hb); clear BK635; clear BK636; clear BK637; clear BK655; clear HB; have BK635 := n0_; have BK636 := n1_; have BK637 := n2_; have BK655 := n3_; have HB := n4_; clear n0_ n1_ n2_ n3_ n4_; (try clear hb); (try clear hb2); (try clear hk); (try clear hi); have hcz138_0 : w137.cell? ⟨gb637, 0, none⟩ = some (.int .i64 x638000_3) := (blk_cell BK637.out 0).trans rfl; have hcz138_1 : w137.cell? ⟨gb637, 1, none⟩ = some (.int .i64 x638001_3) := (blk_cell BK637.out 1).trans rfl; have hfz138_0 := blk_frozen BK637.out 0; have hfz138_1 := blk_frozen BK637.out 1))
               go_roundg kj79
               case measure => have := HJ3.out; have := HK2.out; have := HK3.out; have := HJ79.out; omega
               case rel => exact ⟨(wrap64 (x88_3 + 1)), (x637000_3), (x637001_3), (t657), (t658), (by first | rfl | (simp; done) | (simp [*]; done)), H', ⟨by have := HJ3.out; have := HK2.out; have := HK3.out; have := HJ79.out; omega⟩, ⟨by (with_reducible repeat (first | refine blk_drewN ?_ _ | refine blk_drew ?_ | refine blk_alloc ?_ _)); refine blk_far ?_ NB635_637.out _; (with_reducible repeat (first | refine blk_drewN ?_ _ | refine blk_drew ?_ | refine blk_alloc ?_ _)); refine blk_far ?_ NB635_637.out _; (with_reducible repeat (first | refine blk_drewN ?_ _ | refine blk_drew ?_ | refine blk_alloc ?_ _)); exact BK635.out⟩, ⟨by (with_reducible repeat (first | refine blk_drewN ?_ _ | refine blk_drew ?_ | refine blk_alloc ?_ _)); refine blk_far ?_ NB636_637.out _; (with_reducible repeat (first | refine blk_drewN ?_ _ | refine blk_drew ?_ | refine blk_alloc ?_ _)); refine blk_far ?_ NB636_637.out _; (with_reducible repeat (first | refine blk_drewN ?_ _ | refine blk_drew ?_ | refine blk_alloc ?_ _)); exact BK636.out⟩, ⟨by (with_reducible repeat (first | refine blk_drewN ?_ _ | refine blk_drew ?_ | refine blk_alloc ?_ _)); refine blk_put (cs := #[.int .i64 t657, .int .i64 x638001_3]) ?_ 1 _ rfl; (with_reducible repeat (first | refine blk_drewN ?_ _ | refine blk_drew ?_ | refine blk_alloc ?_ _)); refine blk_put (cs := #[.int .i64 x638000_3, .int .i64 x638001_3]) ?_ 0 _ rfl; (with_reducible repeat (first | refine blk_drewN ?_ _ | refine blk_drew ?_ | refine blk_alloc ?_ _)); exact BK637.out⟩, ⟨by repeat (first | (with_reducible first | exact HB.out | apply below_alloc | apply pw_below_drewN | apply below_drew1 | refine below_set ?_ GE635.out | refine below_set ?_ GE636.out | refine below_set ?_ GE637.out | refine below_set ?_ GE655.out) | exact HB.out)⟩⟩
             ·replace c98 := Bool.eq_false_iff.mpr c98
              subst c98
              have H1 : (some false) = some r := by rw [if_neg (show ¬ (false = true) by decide)] at H; exact H
              clear H
              have H := H1
              clear H1
              obtain rfl := Option.some.inj H
              have hnb139 := NB637_635.out
              have hnc139 := NB635_637.out
              have hnb140 := NB637_636.out
              have hnc140 := NB636_637.out
              have hnb141 := NB637_655.out
              have hnc141 := NB655_637.out
              have hcz142_0 : wc.cell? ⟨gb637, 0, none⟩ = some (.int .i64 x638000_3) := (blk_cell BK637.out 0).trans rfl
              have hcz142_1 : wc.cell? ⟨gb637, 1, none⟩ = some (.int .i64 x638001_3) := (blk_cell BK637.out 1).trans rfl
              have hfz142_0 := blk_frozen BK637.out 0
              have hfz142_1 := blk_frozen BK637.out 1
              have hnb143 := NB655_635.out
              have hnc143 := NB635_655.out
              have hnb144 := NB655_636.out
              have hnc144 := NB636_655.out
              have hcz145_0 : wc.cell? ⟨gb655, 0, none⟩ = some (.int .i64 t652) := (blk_cell BK655.out 0).trans rfl
              have hcz145_1 : wc.cell? ⟨gb655, 1, none⟩ = some (.int .i64 t653) := (blk_cell BK655.out 1).trans rfl
              have hfz145_0 := blk_frozen BK655.out 0
              have hfz145_1 := blk_frozen BK655.out 1
              go_wp2_with (first | ((with_reducible refine gate_callee (f := 24) rfl ?_); refine goesL_ (some 109) rfl rfl Try.func24 (by kernel_rfl) rfl #[.agg #[.int .i64 x638000_3, .int .i64 x638001_3], .agg #[.int .i64 t652, .int .i64 t653], .bool false] rfl al_ ?_; (with_reducible refine (comfitlaw04_added.calls kj79 x638000_3 x638001_3 t652 t653 false t657 t658 false _ A97.out).mono ?_); rintro e w146 ⟨rfl, hb⟩; refine ⟨_, rfl, ?_⟩; have n0_ := Aside0.mk (bkb_ BK635.out hb); have n1_ := Aside0.mk (bkb_ BK636.out hb); have n2_ := Aside0.mk (bkb_ BK637.out hb); have n3_ := Aside0.mk (bkb_ BK655.out hb); have n4_ := Aside0.mk (below_step (hb_ HB.out) hb); clear BK635; clear BK636; clear BK637; clear BK655; clear HB; have BK635 := n0_; have BK636 := n1_; have BK637 := n2_; have BK655 := n3_; have HB := n4_; clear n0_ n1_ n2_ n3_ n4_; (try clear hb); (try clear hb2); (try clear hk); (try clear hi); have hcz147_0 : w146.cell? ⟨gb637, 0, none⟩ = some (.int .i64 x638000_3) := (blk_cell BK637.out 0).trans rfl; have hcz147_1 : w146.cell? ⟨gb637, 1, none⟩ = some (.int .i64 x638001_3) := (blk_cell BK637.out 1).trans rfl; have hfz147_0 := blk_frozen BK637.out 0; have hfz147_1 := blk_frozen BK637.out 1))
              go_ret
              exact ⟨by first | rfl | (simp [errW_none, errW_some] <;> rfl) | (simp only [← hji76]; first | rfl | (simp [errW_none, errW_some] <;> rfl)) | (simp [*, errW_none, errW_some] <;> rfl), by repeat (first | (with_reducible first | exact HB.out | apply below_alloc | apply pw_below_drewN | apply below_drew1 | refine below_set ?_ GE635.out | refine below_set ?_ GE636.out | refine below_set ?_ GE637.out | refine below_set ?_ GE655.out) | exact HB.out)⟩
         ·rw [if_neg c77] at H
          have c77b0 : decide (x88_3 < ji76) = false := decide_eq_false c77
          clear c77
          replace H := Option.bind_eq_some_iff.mp H
          obtain ⟨t663, A1480, H⟩ := H
          replace H : ((packets_Done.f k3 t663 a1 a2).bind fun bt666 => (if bt666.2.2 = 0 then (if (bt666.1 == x637000_3 && (bt666.2.1 == x637001_3)) = true then (if (x638000_3 == 1 && (x638001_3 == 1)) = true then (if a1 = 0 then ((comfitlaw04_awake.f k3).bind fun t671 => (some t671)) else (if (x636000_2 == 1 && (x636001_2 == 1)) = true then ((comfitlaw04_awake.f k3).bind fun t672 => (some t672)) else (some false))) else (some false)) else (some false)) else (some false))) = some r := H
          have A148 := Aside0.mk A1480
          clear A1480
          replace H := Option.bind_eq_some_iff.mp H
          obtain ⟨⟨t666, t667, t668⟩, A1490, H⟩ := H
          replace H : (if t668 = 0 then (if (t666 == x637000_3 && (t667 == x637001_3)) = true then (if (x638000_3 == 1 && (x638001_3 == 1)) = true then (if a1 = 0 then ((comfitlaw04_awake.f k3).bind fun t671 => (some t671)) else (if (x636000_2 == 1 && (x636001_2 == 1)) = true then ((comfitlaw04_awake.f k3).bind fun t672 => (some t672)) else (some false))) else (some false)) else (some false)) else (some false)) = some r := H
          have A149 := Aside0.mk A1490
          clear A1490
          by_cases c150 : t668 = 0
          ·rw [if_pos c150] at H
           have c150b0 : (t668 == 0) = true := beq_iff_eq.mpr c150
           have c150b1 : (t668 != 0) = false := bne_eq_false_iff_eq.mpr c150
           clear c150
           by_cases c151 : (t666 == x637000_3 && (t667 == x637001_3)) = true
           ·rw [if_pos c151] at H
            have c151b0 : (t666 == x637000_3 && (t667 == x637001_3)) = true := c151
            (try (have c151b1 : decide (t666 = x637000_3 && (t667 == x637001_3)) = true := by simpa using c151))
            (try (have c151b2 : (t666 == x637000_3 && (t667 == x637001_3)) = true := by simpa using c151))
            clear c151
            by_cases c152 : (x638000_3 == 1 && (x638001_3 == 1)) = true
            ·rw [if_pos c152] at H
             have c152b0 : (x638000_3 == 1 && (x638001_3 == 1)) = true := c152
             (try (have c152b1 : decide (x638000_3 = 1 && (x638001_3 == 1)) = true := by simpa using c152))
             (try (have c152b2 : (x638000_3 == 1 && (x638001_3 == 1)) = true := by simpa using c152))
             clear c152
             by_cases c153 : a1 = 0
             ·rw [if_pos c153] at H
              have c153b0 : (a1 == 0) = true := beq_iff_eq.mpr c153
              have c153b1 : (a1 != 0) = false := bne_eq_false_iff_eq.mpr c153
              clear c153
              replace H := Option.bind_eq_some_iff.mp H
              obtain ⟨t671, A1540, H⟩ := H
              replace H : (some t671) = some r := H
              have A154 := Aside0.mk A1540
              clear A1540
              obtain rfl := Option.some.inj H
              go_wp2_with (first | ((with_reducible refine gate_callee (f := 22) rfl ?_); refine goesL_ (some 130) rfl rfl Try.func22 (by kernel_rfl) rfl #[.slice A0 l0.length c0] rfl al_ ?_; (with_reducible refine (comfitlaw04_list.calls _ _ l0 t663 _ ?side1 ?side2 A148.out).mono ?_); (case side1 => exact kc_ (Kd.C_below HR0.out HB.out)); (case side2 => exact HC0.out); rintro e w155 ⟨v664, rfl, ho0, hb⟩; refine ⟨_, rfl, ?_⟩; have n0_ := Aside0.mk (Kd.R_lower ho0 (below_size (hb_ HB.out))); have n1_ := Aside0.mk (bkb_ BK635.out hb); have n2_ := Aside0.mk (bkb_ BK636.out hb); have n3_ := Aside0.mk (bkb_ BK637.out hb); have n4_ := Aside0.mk (below_step (hb_ HB.out) hb); clear BK635; clear BK636; clear BK637; clear HB; have HO665 := n0_; have BK635 := n1_; have BK636 := n2_; have BK637 := n3_; have HB := n4_; clear n0_ n1_ n2_ n3_ n4_; (try clear hb); (try clear hb2); (try clear hk); (try clear hi); (try clear ho0); obtain ⟨Ao156, co156, eo156⟩ := Kd.R_slice HO665.out; subst eo156) | ((with_reducible refine gate_callee (f := 37) rfl ?_); refine goesL_ (some 133) rfl rfl Try.func37 (by kernel_rfl) rfl #[.slice Ao156 t663.length co156, .int .i64 a1, .int .i64 a2] rfl al_ ?_; (with_reducible refine (packets_Done.calls k3 _ _ t663 a1 a2 t666 t667 t668 _ ?side1 ?side2 A149.out).mono ?_); (case side1 => exact kc_ (Kd.R_reads' HO665.out).2.2); (case side2 => exact (Kd.R_reads' HO665.out).2.1); rintro e w157 ⟨rfl, hb⟩; refine ⟨_, rfl, ?_⟩; have n0_ := Aside0.mk (Kd.R_below (kr_ (HO665.out)) hb); have n1_ := Aside0.mk (bkb_ BK635.out hb); have n2_ := Aside0.mk (bkb_ BK636.out hb); have n3_ := Aside0.mk (bkb_ BK637.out hb); have n4_ := Aside0.mk (below_step (hb_ HB.out) hb); clear HO665; clear BK635; clear BK636; clear BK637; clear HB; have HO665 := n0_; have BK635 := n1_; have BK636 := n2_; have BK637 := n3_; have HB := n4_; clear n0_ n1_ n2_ n3_ n4_; (try clear hb); (try clear hb2); (try clear hk); (try clear hi)) | ((with_reducible refine gate_dst (N := 20) rfl ?_); refine box_event ?hg (N := 20) ?hd (cs := #[.int .i64 0, .int .i64 0]) (t := 25) ?hr ?_; (case hd => rfl); (case hg => rfl); (case hr => first | (go_simp; done) | (go_simp; rfl)); intro gb669 hg w158 hbox hb; have n0_ := Aside0.mk (Kd.R_below (kr_ (HO665.out)) hb); have n1_ := Aside0.mk (bkb_ BK635.out hb); have n2_ := Aside0.mk (bkb_ BK636.out hb); have n3_ := Aside0.mk (bkb_ BK637.out hb); have n4_ := Aside0.mk (below_step (hb_ HB.out) hb); have n5_ := Aside0.mk (hbox); have n6_ := Aside0.mk ((by rw [hg]; exact (below_size (hb_ HB.out)) : w.heap.size ≤ gb669)); have n7_ := Aside0.mk ((by rw [hg]; exact (below_size (hb_ HB.out)) : w.heap.size ≤ gb669)); have n8_ := Aside0.mk ((by rw [hg]; exact Nat.ne_of_lt (bkl_ BK635.out) : gb635 ≠ gb669)); have n9_ := Aside0.mk ((by rw [hg]; exact Nat.ne_of_gt (bkl_ BK635.out) : gb669 ≠ gb635)); have n10_ := Aside0.mk ((by rw [hg]; exact Nat.ne_of_lt (bkl_ BK636.out) : gb636 ≠ gb669)); have n11_ := Aside0.mk ((by rw [hg]; exact Nat.ne_of_gt (bkl_ BK636.out) : gb669 ≠ gb636)); have n12_ := Aside0.mk ((by rw [hg]; exact Nat.ne_of_lt (bkl_ BK637.out) : gb637 ≠ gb669)); have n13_ := Aside0.mk ((by rw [hg]; exact Nat.ne_of_gt (bkl_ BK637.out) : gb669 ≠ gb637)); clear HO665; clear BK635; clear BK636; clear BK637; clear HB; have HO665 := n0_; have BK635 := n1_; have BK636 := n2_; have BK637 := n3_; have HB := n4_; have BK669 := n5_; have GW669 := n6_; have GE669 := n7_; have NB635_669 := n8_; have NB669_635 := n9_; have NB636_669 := n10_; have NB669_636 := n11_; have NB637_669 := n12_; have NB669_637 := n13_; clear n0_ n1_ n2_ n3_ n4_ n5_ n6_ n7_ n8_ n9_ n10_ n11_ n12_ n13_; clear hb hbox hg; have hnb159 := NB669_635.out; have hnc159 := NB635_669.out; have hnb160 := NB669_636.out; have hnc160 := NB636_669.out; have hnb161 := NB669_637.out; have hnc161 := NB637_669.out; have hcz162_0 : w158.cell? ⟨gb669, 0, none⟩ = some (.int .i64 0) := (blk_cell BK669.out 0).trans rfl; have hcz162_1 : w158.cell? ⟨gb669, 1, none⟩ = some (.int .i64 0) := (blk_cell BK669.out 1).trans rfl; have hfz162_0 := blk_frozen BK669.out 0; have hfz162_1 := blk_frozen BK669.out 1) | ((with_reducible refine gate_dst (N := 22) rfl ?_); refine box_event ?hg (N := 22) ?hd (cs := #[.int .i64 0, .int .i64 0]) (t := 25) ?hr ?_; (case hd => rfl); (case hg => rfl); (case hr => first | (go_simp; done) | (go_simp; rfl)); intro gb670 hg w163 hbox hb; have n0_ := Aside0.mk (Kd.R_below (kr_ ((Kd.R_mono (Kd.R_far (p := ⟨gb669, 1, none⟩) (Kd.R_far (p := ⟨gb669, 0, none⟩) (Kd.R_types HO665.out BK669.out (by decide)) (fun _ hk => hk.2) (.int .i64 t666)) (fun _ hk => hk.2) (.int .i64 t667)) (fun _ h_ => h_.1)))) hb); have n1_ := Aside0.mk (blk_below (g := gb635) (o := .cells #[.int .i64 x636000_2, .int .i64 x636001_2] 25 (0, 0)) (by (with_reducible repeat (first | refine blk_drewN ?_ _ | refine blk_drew ?_ | refine blk_alloc ?_ _)); refine blk_far ?_ NB635_669.out _; (with_reducible repeat (first | refine blk_drewN ?_ _ | refine blk_drew ?_ | refine blk_alloc ?_ _)); refine blk_far ?_ NB635_669.out _; (with_reducible repeat (first | refine blk_drewN ?_ _ | refine blk_drew ?_ | refine blk_alloc ?_ _)); exact BK635.out) hb); have n2_ := Aside0.mk (blk_below (g := gb636) (o := .cells #[.int .i64 x637000_3, .int .i64 x637001_3] 25 (0, 0)) (by (with_reducible repeat (first | refine blk_drewN ?_ _ | refine blk_drew ?_ | refine blk_alloc ?_ _)); refine blk_far ?_ NB636_669.out _; (with_reducible repeat (first | refine blk_drewN ?_ _ | refine blk_drew ?_ | refine blk_alloc ?_ _)); refine blk_far ?_ NB636_669.out _; (with_reducible repeat (first | refine blk_drewN ?_ _ | refine blk_drew ?_ | refine blk_alloc ?_ _)); exact BK636.out) hb); have n3_ := Aside0.mk (blk_below (g := gb637) (o := .cells #[.int .i64 x638000_3, .int .i64 x638001_3] 25 (0, 0)) (by (with_reducible repeat (first | refine blk_drewN ?_ _ | refine blk_drew ?_ | refine blk_alloc ?_ _)); refine blk_far ?_ NB637_669.out _; (with_reducible repeat (first | refine blk_drewN ?_ _ | refine blk_drew ?_ | refine blk_alloc ?_ _)); refine blk_far ?_ NB637_669.out _; (with_reducible repeat (first | refine blk_drewN ?_ _ | refine blk_drew ?_ | refine blk_alloc ?_ _)); exact BK637.out) hb); have n4_ := Aside0.mk (blk_below (g := gb669) (o := .cells #[.int .i64 t666, .int .i64 t667] 25 (0, 0)) (by (with_reducible repeat (first | refine blk_drewN ?_ _ | refine blk_drew ?_ | refine blk_alloc ?_ _)); refine blk_put (cs := #[.int .i64 t666, .int .i64 0]) ?_ 1 _ rfl; (with_reducible repeat (first | refine blk_drewN ?_ _ | refine blk_drew ?_ | refine blk_alloc ?_ _)); refine blk_put (cs := #[.int .i64 0, .int .i64 0]) ?_ 0 _ rfl; (with_reducible repeat (first | refine blk_drewN ?_ _ | refine blk_drew ?_ | refine blk_alloc ?_ _)); exact BK669.out) hb); have n5_ := Aside0.mk (below_step (hb_ HB.out) hb); have n6_ := Aside0.mk (hbox); have n7_ := Aside0.mk ((by rw [hg]; exact (below_size (hb_ HB.out)) : w.heap.size ≤ gb670)); have n8_ := Aside0.mk ((by rw [hg]; exact (below_size (hb_ HB.out)) : w.heap.size ≤ gb670)); have n9_ := Aside0.mk ((by rw [hg]; exact Nat.ne_of_lt (blk_lt (g := gb635) (o := .cells #[.int .i64 x636000_2, .int .i64 x636001_2] 25 (0, 0)) (by (with_reducible repeat (first | refine blk_drewN ?_ _ | refine blk_drew ?_ | refine blk_alloc ?_ _)); refine blk_far ?_ NB635_669.out _; (with_reducible repeat (first | refine blk_drewN ?_ _ | refine blk_drew ?_ | refine blk_alloc ?_ _)); refine blk_far ?_ NB635_669.out _; (with_reducible repeat (first | refine blk_drewN ?_ _ | refine blk_drew ?_ | refine blk_alloc ?_ _)); exact BK635.out)) : gb635 ≠ gb670)); have n10_ := Aside0.mk ((by rw [hg]; exact Nat.ne_of_gt (blk_lt (g := gb635) (o := .cells #[.int .i64 x636000_2, .int .i64 x636001_2] 25 (0, 0)) (by (with_reducible repeat (first | refine blk_drewN ?_ _ | refine blk_drew ?_ | refine blk_alloc ?_ _)); refine blk_far ?_ NB635_669.out _; (with_reducible repeat (first | refine blk_drewN ?_ _ | refine blk_drew ?_ | refine blk_alloc ?_ _)); refine blk_far ?_ NB635_669.out _; (with_reducible repeat (first | refine blk_drewN ?_ _ | refine blk_drew ?_ | refine blk_alloc ?_ _)); exact BK635.out)) : gb670 ≠ gb635)); have n11_ := Aside0.mk ((by rw [hg]; exact Nat.ne_of_lt (blk_lt (g := gb636) (o := .cells #[.int .i64 x637000_3, .int .i64 x637001_3] 25 (0, 0)) (by (with_reducible repeat (first | refine blk_drewN ?_ _ | refine blk_drew ?_ | refine blk_alloc ?_ _)); refine blk_far ?_ NB636_669.out _; (with_reducible repeat (first | refine blk_drewN ?_ _ | refine blk_drew ?_ | refine blk_alloc ?_ _)); refine blk_far ?_ NB636_669.out _; (with_reducible repeat (first | refine blk_drewN ?_ _ | refine blk_drew ?_ | refine blk_alloc ?_ _)); exact BK636.out)) : gb636 ≠ gb670)); have n12_ := Aside0.mk ((by rw [hg]; exact Nat.ne_of_gt (blk_lt (g := gb636) (o := .cells #[.int .i64 x637000_3, .int .i64 x637001_3] 25 (0, 0)) (by (with_reducible repeat (first | refine blk_drewN ?_ _ | refine blk_drew ?_ | refine blk_alloc ?_ _)); refine blk_far ?_ NB636_669.out _; (with_reducible repeat (first | refine blk_drewN ?_ _ | refine blk_drew ?_ | refine blk_alloc ?_ _)); refine blk_far ?_ NB636_669.out _; (with_reducible repeat (first | refine blk_drewN ?_ _ | refine blk_drew ?_ | refine blk_alloc ?_ _)); exact BK636.out)) : gb670 ≠ gb636)); have n13_ := Aside0.mk ((by rw [hg]; exact Nat.ne_of_lt (blk_lt (g := gb637) (o := .cells #[.int .i64 x638000_3, .int .i64 x638001_3] 25 (0, 0)) (by (with_reducible repeat (first | refine blk_drewN ?_ _ | refine blk_drew ?_ | refine blk_alloc ?_ _)); refine blk_far ?_ NB637_669.out _; (with_reducible repeat (first | refine blk_drewN ?_ _ | refine blk_drew ?_ | refine blk_alloc ?_ _)); refine blk_far ?_ NB637_669.out _; (with_reducible repeat (first | refine blk_drewN ?_ _ | refine blk_drew ?_ | refine blk_alloc ?_ _)); exact BK637.out)) : gb637 ≠ gb670)); have n14_ := Aside0.mk ((by rw [hg]; exact Nat.ne_of_gt (blk_lt (g := gb637) (o := .cells #[.int .i64 x638000_3, .int .i64 x638001_3] 25 (0, 0)) (by (with_reducible repeat (first | refine blk_drewN ?_ _ | refine blk_drew ?_ | refine blk_alloc ?_ _)); refine blk_far ?_ NB637_669.out _; (with_reducible repeat (first | refine blk_drewN ?_ _ | refine blk_drew ?_ | refine blk_alloc ?_ _)); refine blk_far ?_ NB637_669.out _; (with_reducible repeat (first | refine blk_drewN ?_ _ | refine blk_drew ?_ | refine blk_alloc ?_ _)); exact BK637.out)) : gb670 ≠ gb637)); have n15_ := Aside0.mk ((by rw [hg]; exact Nat.ne_of_lt (blk_lt (g := gb669) (o := .cells #[.int .i64 t666, .int .i64 t667] 25 (0, 0)) (by (with_reducible repeat (first | refine blk_drewN ?_ _ | refine blk_drew ?_ | refine blk_alloc ?_ _)); refine blk_put (cs := #[.int .i64 t666, .int .i64 0]) ?_ 1 _ rfl; (with_reducible repeat (first | refine blk_drewN ?_ _ | refine blk_drew ?_ | refine blk_alloc ?_ _)); refine blk_put (cs := #[.int .i64 0, .int .i64 0]) ?_ 0 _ rfl; (with_reducible repeat (first | refine blk_drewN ?_ _ | refine blk_drew ?_ | refine blk_alloc ?_ _)); exact BK669.out)) : gb669 ≠ gb670)); have n16_ := Aside0.mk ((by rw [hg]; exact Nat.ne_of_gt (blk_lt (g := gb669) (o := .cells #[.int .i64 t666, .int .i64 t667] 25 (0, 0)) (by (with_reducible repeat (first | refine blk_drewN ?_ _ | refine blk_drew ?_ | refine blk_alloc ?_ _)); refine blk_put (cs := #[.int .i64 t666, .int .i64 0]) ?_ 1 _ rfl; (with_reducible repeat (first | refine blk_drewN ?_ _ | refine blk_drew ?_ | refine blk_alloc ?_ _)); refine blk_put (cs := #[.int .i64 0, .int .i64 0]) ?_ 0 _ rfl; (with_reducible repeat (first | refine blk_drewN ?_ _ | refine blk_drew ?_ | refine blk_alloc ?_ _)); exact BK669.out)) : gb670 ≠ gb669)); clear HO665; clear BK635; clear BK636; clear BK637; clear BK669; clear HB; have HO665 := n0_; have BK635 := n1_; have BK636 := n2_; have BK637 := n3_; have BK669 := n4_; have HB := n5_; have BK670 := n6_; have GW670 := n7_; have GE670 := n8_; have NB635_670 := n9_; have NB670_635 := n10_; have NB636_670 := n11_; have NB670_636 := n12_; have NB637_670 := n13_; have NB670_637 := n14_; have NB669_670 := n15_; have NB670_669 := n16_; clear n0_ n1_ n2_ n3_ n4_ n5_ n6_ n7_ n8_ n9_ n10_ n11_ n12_ n13_ n14_ n15_ n16_; clear hb hbox hg; have hnb164 := NB670_635.out; have hnc164 := NB635_670.out; have hnb165 := NB670_636.out; have hnc165 := NB636_670.out; have hnb166 := NB670_637.out; have hnc166 := NB637_670.out; have hnb167 := NB670_669.out; have hnc167 := NB669_670.out; have hcz168_0 : w163.cell? ⟨gb670, 0, none⟩ = some (.int .i64 0) := (blk_cell BK670.out 0).trans rfl; have hcz168_1 : w163.cell? ⟨gb670, 1, none⟩ = some (.int .i64 0) := (blk_cell BK670.out 1).trans rfl; have hfz168_0 := blk_frozen BK670.out 0; have hfz168_1 := blk_frozen BK670.out 1; have hcz169_0 : w163.cell? ⟨gb669, 0, none⟩ = some (.int .i64 t666) := (blk_cell BK669.out 0).trans rfl; have hcz169_1 : w163.cell? ⟨gb669, 1, none⟩ = some (.int .i64 t667) := (blk_cell BK669.out 1).trans rfl; have hfz169_0 := blk_frozen BK669.out 0; have hfz169_1 := blk_frozen BK669.out 1; have hnb170 := NB636_635.out; have hnc170 := NB635_636.out; have hnb171 := NB636_637.out; have hnc171 := NB637_636.out; have hcz172_0 : w163.cell? ⟨gb636, 0, none⟩ = some (.int .i64 x637000_3) := (blk_cell BK636.out 0).trans rfl; have hcz172_1 : w163.cell? ⟨gb636, 1, none⟩ = some (.int .i64 x637001_3) := (blk_cell BK636.out 1).trans rfl; have hfz172_0 := blk_frozen BK636.out 0; have hfz172_1 := blk_frozen BK636.out 1; have hnb173 := NB637_635.out; have hnc173 := NB635_637.out; have hcz174_0 : w163.cell? ⟨gb637, 0, none⟩ = some (.int .i64 x638000_3) := (blk_cell BK637.out 0).trans rfl; have hcz174_1 : w163.cell? ⟨gb637, 1, none⟩ = some (.int .i64 x638001_3) := (blk_cell BK637.out 1).trans rfl; have hfz174_0 := blk_frozen BK637.out 0; have hfz174_1 := blk_frozen BK637.out 1) | (go_at_call 20; (with_reducible refine (comfitlaw04_awake.calls k3  t671 _ A154.out).mono ?_); rintro e w175 ⟨rfl, hb⟩; have n0_ := Aside0.mk (Kd.R_below (kr_ ((Kd.R_mono (Kd.R_far (p := ⟨gb670, 1, none⟩) (Kd.R_far (p := ⟨gb670, 0, none⟩) (Kd.R_types HO665.out BK670.out (by decide)) (fun _ hk => hk.2) (.int .i64 1)) (fun _ hk => hk.2) (.int .i64 1)) (fun _ h_ => h_.1)))) hb); have n1_ := Aside0.mk (blk_below (g := gb635) (o := .cells #[.int .i64 x636000_2, .int .i64 x636001_2] 25 (0, 0)) (by (with_reducible repeat (first | refine blk_drewN ?_ _ | refine blk_drew ?_ | refine blk_alloc ?_ _)); refine blk_far ?_ NB635_670.out _; (with_reducible repeat (first | refine blk_drewN ?_ _ | refine blk_drew ?_ | refine blk_alloc ?_ _)); refine blk_far ?_ NB635_670.out _; (with_reducible repeat (first | refine blk_drewN ?_ _ | refine blk_drew ?_ | refine blk_alloc ?_ _)); exact BK635.out) hb); have n2_ := Aside0.mk (blk_below (g := gb636) (o := .cells #[.int .i64 x637000_3, .int .i64 x637001_3] 25 (0, 0)) (by (with_reducible repeat (first | refine blk_drewN ?_ _ | refine blk_drew ?_ | refine blk_alloc ?_ _)); refine blk_far ?_ NB636_670.out _; (with_reducible repeat (first | refine blk_drewN ?_ _ | refine blk_drew ?_ | refine blk_alloc ?_ _)); refine blk_far ?_ NB636_670.out _; (with_reducible repeat (first | refine blk_drewN ?_ _ | refine blk_drew ?_ | refine blk_alloc ?_ _)); exact BK636.out) hb); have n3_ := Aside0.mk (blk_below (g := gb637) (o := .cells #[.int .i64 x638000_3, .int .i64 x638001_3] 25 (0, 0)) (by (with_reducible repeat (first | refine blk_drewN ?_ _ | refine blk_drew ?_ | refine blk_alloc ?_ _)); refine blk_far ?_ NB637_670.out _; (with_reducible repeat (first | refine blk_drewN ?_ _ | refine blk_drew ?_ | refine blk_alloc ?_ _)); refine blk_far ?_ NB637_670.out _; (with_reducible repeat (first | refine blk_drewN ?_ _ | refine blk_drew ?_ | refine blk_alloc ?_ _)); exact BK637.out) hb); have n4_ := Aside0.mk (blk_below (g := gb669) (o := .cells #[.int .i64 t666, .int .i64 t667] 25 (0, 0)) (by (with_reducible repeat (first | refine blk_drewN ?_ _ | refine blk_drew ?_ | refine blk_alloc ?_ _)); refine blk_far ?_ NB669_670.out _; (with_reducible repeat (first | refine blk_drewN ?_ _ | refine blk_drew ?_ | refine blk_alloc ?_ _)); refine blk_far ?_ NB669_670.out _; (with_reducible repeat (first | refine blk_drewN ?_ _ | refine blk_drew ?_ | refine blk_alloc ?_ _)); exact BK669.out) hb); have n5_ := Aside0.mk (blk_below (g := gb670) (o := .cells #[.int .i64 1, .int .i64 1] 25 (0, 0)) (by (with_reducible repeat (first | refine blk_drewN ?_ _ | refine blk_drew ?_ | refine blk_alloc ?_ _)); refine blk_put (cs := #[.int .i64 1, .int .i64 0]) ?_ 1 _ rfl; (with_reducible repeat (first | refine blk_drewN ?_ _ | refine blk_drew ?_ | refine blk_alloc ?_ _)); refine blk_put (cs := #[.int .i64 0, .int .i64 0]) ?_ 0 _ rfl; (with_reducible repeat (first | refine blk_drewN ?_ _ | refine blk_drew ?_ | refine blk_alloc ?_ _)); exact BK670.out) hb); have n6_ := Aside0.mk (below_step (hb_ HB.out) hb); clear HO665; clear BK635; clear BK636; clear BK637; clear BK669; clear BK670; clear HB; have HO665 := n0_; have BK635 := n1_; have BK636 := n2_; have BK637 := n3_; have BK669 := n4_; have BK670 := n5_; have HB := n6_; clear n0_ n1_ n2_ n3_ n4_ n5_ n6_; (try clear hb); (try clear hb2); (try clear hk); (try clear hi)))
              go_ret
              exact ⟨by first | rfl | (simp [errW_none, errW_some] <;> rfl) | (simp only [← hji76]; first | rfl | (simp [errW_none, errW_some] <;> rfl)) | (simp [*, errW_none, errW_some] <;> rfl), by repeat (first | (with_reducible first | exact HB.out | apply below_alloc | apply pw_below_drewN | apply below_drew1 | refine below_set ?_ GE635.out | refine below_set ?_ GE636.out | refine below_set ?_ GE637.out | refine below_set ?_ GE669.out | refine below_set ?_ GE670.out) | exact HB.out)⟩
             ·rw [if_neg c153] at H
              have c153b0 : (a1 == 0) = false := beq_eq_false_iff_ne.mpr c153
              have c153b1 : (a1 != 0) = true := bne_iff_ne.mpr c153
              by_cases c176 : (x636000_2 == 1 && (x636001_2 == 1)) = true
              ·rw [if_pos c176] at H
               have c176b0 : (x636000_2 == 1 && (x636001_2 == 1)) = true := c176
               (try (have c176b1 : decide (x636000_2 = 1 && (x636001_2 == 1)) = true := by simpa using c176))
               (try (have c176b2 : (x636000_2 == 1 && (x636001_2 == 1)) = true := by simpa using c176))
               clear c176
               replace H := Option.bind_eq_some_iff.mp H
               obtain ⟨t672, A1770, H⟩ := H
               replace H : (some t672) = some r := H
               have A177 := Aside0.mk A1770
               clear A1770
               obtain rfl := Option.some.inj H
               go_wp2_with (first | ((with_reducible refine gate_callee (f := 22) rfl ?_); refine goesL_ (some 130) rfl rfl Try.func22 (by kernel_rfl) rfl #[.slice A0 l0.length c0] rfl al_ ?_; (with_reducible refine (comfitlaw04_list.calls _ _ l0 t663 _ ?side1 ?side2 A148.out).mono ?_); (case side1 => exact kc_ (Kd.C_below HR0.out HB.out)); (case side2 => exact HC0.out); rintro e w178 ⟨v664, rfl, ho0, hb⟩; refine ⟨_, rfl, ?_⟩; have n0_ := Aside0.mk (Kd.R_lower ho0 (below_size (hb_ HB.out))); have n1_ := Aside0.mk (bkb_ BK635.out hb); have n2_ := Aside0.mk (bkb_ BK636.out hb); have n3_ := Aside0.mk (bkb_ BK637.out hb); have n4_ := Aside0.mk (below_step (hb_ HB.out) hb); clear BK635; clear BK636; clear BK637; clear HB; have HO665 := n0_; have BK635 := n1_; have BK636 := n2_; have BK637 := n3_; have HB := n4_; clear n0_ n1_ n2_ n3_ n4_; (try clear hb); (try clear hb2); (try clear hk); (try clear hi); (try clear ho0); obtain ⟨Ao179, co179, eo179⟩ := Kd.R_slice HO665.out; subst eo179) | ((with_reducible refine gate_callee (f := 37) rfl ?_); refine goesL_ (some 133) rfl rfl Try.func37 (by kernel_rfl) rfl #[.slice Ao179 t663.length co179, .int .i64 a1, .int .i64 a2] rfl al_ ?_; (with_reducible refine (packets_Done.calls k3 _ _ t663 a1 a2 t666 t667 t668 _ ?side1 ?side2 A149.out).mono ?_); (case side1 => exact kc_ (Kd.R_reads' HO665.out).2.2); (case side2 => exact (Kd.R_reads' HO665.out).2.1); rintro e w180 ⟨rfl, hb⟩; refine ⟨_, rfl, ?_⟩; have n0_ := Aside0.mk (Kd.R_below (kr_ (HO665.out)) hb); have n1_ := Aside0.mk (bkb_ BK635.out hb); have n2_ := Aside0.mk (bkb_ BK636.out hb); have n3_ := Aside0.mk (bkb_ BK637.out hb); have n4_ := Aside0.mk (below_step (hb_ HB.out) hb); clear HO665; clear BK635; clear BK636; clear BK637; clear HB; have HO665 := n0_; have BK635 := n1_; have BK636 := n2_; have BK637 := n3_; have HB := n4_; clear n0_ n1_ n2_ n3_ n4_; (try clear hb); (try clear hb2); (try clear hk); (try clear hi)) | ((with_reducible refine gate_dst (N := 20) rfl ?_); refine box_event ?hg (N := 20) ?hd (cs := #[.int .i64 0, .int .i64 0]) (t := 25) ?hr ?_; (case hd => rfl); (case hg => rfl); (case hr => first | (go_simp; done) | (go_simp; rfl)); intro gb669 hg w181 hbox hb; have n0_ := Aside0.mk (Kd.R_below (kr_ (HO665.out)) hb); have n1_ := Aside0.mk (bkb_ BK635.out hb); have n2_ := Aside0.mk (bkb_ BK636.out hb); have n3_ := Aside0.mk (bkb_ BK637.out hb); have n4_ := Aside0.mk (below_step (hb_ HB.out) hb); have n5_ := Aside0.mk (hbox); have n6_ := Aside0.mk ((by rw [hg]; exact (below_size (hb_ HB.out)) : w.heap.size ≤ gb669)); have n7_ := Aside0.mk ((by rw [hg]; exact (below_size (hb_ HB.out)) : w.heap.size ≤ gb669)); have n8_ := Aside0.mk ((by rw [hg]; exact Nat.ne_of_lt (bkl_ BK635.out) : gb635 ≠ gb669)); have n9_ := Aside0.mk ((by rw [hg]; exact Nat.ne_of_gt (bkl_ BK635.out) : gb669 ≠ gb635)); have n10_ := Aside0.mk ((by rw [hg]; exact Nat.ne_of_lt (bkl_ BK636.out) : gb636 ≠ gb669)); have n11_ := Aside0.mk ((by rw [hg]; exact Nat.ne_of_gt (bkl_ BK636.out) : gb669 ≠ gb636)); have n12_ := Aside0.mk ((by rw [hg]; exact Nat.ne_of_lt (bkl_ BK637.out) : gb637 ≠ gb669)); have n13_ := Aside0.mk ((by rw [hg]; exact Nat.ne_of_gt (bkl_ BK637.out) : gb669 ≠ gb637)); clear HO665; clear BK635; clear BK636; clear BK637; clear HB; have HO665 := n0_; have BK635 := n1_; have BK636 := n2_; have BK637 := n3_; have HB := n4_; have BK669 := n5_; have GW669 := n6_; have GE669 := n7_; have NB635_669 := n8_; have NB669_635 := n9_; have NB636_669 := n10_; have NB669_636 := n11_; have NB637_669 := n12_; have NB669_637 := n13_; clear n0_ n1_ n2_ n3_ n4_ n5_ n6_ n7_ n8_ n9_ n10_ n11_ n12_ n13_; clear hb hbox hg; have hnb182 := NB669_635.out; have hnc182 := NB635_669.out; have hnb183 := NB669_636.out; have hnc183 := NB636_669.out; have hnb184 := NB669_637.out; have hnc184 := NB637_669.out; have hcz185_0 : w181.cell? ⟨gb669, 0, none⟩ = some (.int .i64 0) := (blk_cell BK669.out 0).trans rfl; have hcz185_1 : w181.cell? ⟨gb669, 1, none⟩ = some (.int .i64 0) := (blk_cell BK669.out 1).trans rfl; have hfz185_0 := blk_frozen BK669.out 0; have hfz185_1 := blk_frozen BK669.out 1) | ((with_reducible refine gate_dst (N := 22) rfl ?_); refine box_event ?hg (N := 22) ?hd (cs := #[.int .i64 0, .int .i64 0]) (t := 25) ?hr ?_; (case hd => rfl); (case hg => rfl); (case hr => first | (go_simp; done) | (go_simp; rfl)); intro gb670 hg w186 hbox hb; have n0_ := Aside0.mk (Kd.R_below (kr_ ((Kd.R_mono (Kd.R_far (p := ⟨gb669, 1, none⟩) (Kd.R_far (p := ⟨gb669, 0, none⟩) (Kd.R_types HO665.out BK669.out (by decide)) (fun _ hk => hk.2) (.int .i64 t666)) (fun _ hk => hk.2) (.int .i64 t667)) (fun _ h_ => h_.1)))) hb); have n1_ := Aside0.mk (blk_below (g := gb635) (o := .cells #[.int .i64 x636000_2, .int .i64 x636001_2] 25 (0, 0)) (by (with_reducible repeat (first | refine blk_drewN ?_ _ | refine blk_drew ?_ | refine blk_alloc ?_ _)); refine blk_far ?_ NB635_669.out _; (with_reducible repeat (first | refine blk_drewN ?_ _ | refine blk_drew ?_ | refine blk_alloc ?_ _)); refine blk_far ?_ NB635_669.out _; (with_reducible repeat (first | refine blk_drewN ?_ _ | refine blk_drew ?_ | refine blk_alloc ?_ _)); exact BK635.out) hb); have n2_ := Aside0.mk (blk_below (g := gb636) (o := .cells #[.int .i64 x637000_3, .int .i64 x637001_3] 25 (0, 0)) (by (with_reducible repeat (first | refine blk_drewN ?_ _ | refine blk_drew ?_ | refine blk_alloc ?_ _)); refine blk_far ?_ NB636_669.out _; (with_reducible repeat (first | refine blk_drewN ?_ _ | refine blk_drew ?_ | refine blk_alloc ?_ _)); refine blk_far ?_ NB636_669.out _; (with_reducible repeat (first | refine blk_drewN ?_ _ | refine blk_drew ?_ | refine blk_alloc ?_ _)); exact BK636.out) hb); have n3_ := Aside0.mk (blk_below (g := gb637) (o := .cells #[.int .i64 x638000_3, .int .i64 x638001_3] 25 (0, 0)) (by (with_reducible repeat (first | refine blk_drewN ?_ _ | refine blk_drew ?_ | refine blk_alloc ?_ _)); refine blk_far ?_ NB637_669.out _; (with_reducible repeat (first | refine blk_drewN ?_ _ | refine blk_drew ?_ | refine blk_alloc ?_ _)); refine blk_far ?_ NB637_669.out _; (with_reducible repeat (first | refine blk_drewN ?_ _ | refine blk_drew ?_ | refine blk_alloc ?_ _)); exact BK637.out) hb); have n4_ := Aside0.mk (blk_below (g := gb669) (o := .cells #[.int .i64 t666, .int .i64 t667] 25 (0, 0)) (by (with_reducible repeat (first | refine blk_drewN ?_ _ | refine blk_drew ?_ | refine blk_alloc ?_ _)); refine blk_put (cs := #[.int .i64 t666, .int .i64 0]) ?_ 1 _ rfl; (with_reducible repeat (first | refine blk_drewN ?_ _ | refine blk_drew ?_ | refine blk_alloc ?_ _)); refine blk_put (cs := #[.int .i64 0, .int .i64 0]) ?_ 0 _ rfl; (with_reducible repeat (first | refine blk_drewN ?_ _ | refine blk_drew ?_ | refine blk_alloc ?_ _)); exact BK669.out) hb); have n5_ := Aside0.mk (below_step (hb_ HB.out) hb); have n6_ := Aside0.mk (hbox); have n7_ := Aside0.mk ((by rw [hg]; exact (below_size (hb_ HB.out)) : w.heap.size ≤ gb670)); have n8_ := Aside0.mk ((by rw [hg]; exact (below_size (hb_ HB.out)) : w.heap.size ≤ gb670)); have n9_ := Aside0.mk ((by rw [hg]; exact Nat.ne_of_lt (blk_lt (g := gb635) (o := .cells #[.int .i64 x636000_2, .int .i64 x636001_2] 25 (0, 0)) (by (with_reducible repeat (first | refine blk_drewN ?_ _ | refine blk_drew ?_ | refine blk_alloc ?_ _)); refine blk_far ?_ NB635_669.out _; (with_reducible repeat (first | refine blk_drewN ?_ _ | refine blk_drew ?_ | refine blk_alloc ?_ _)); refine blk_far ?_ NB635_669.out _; (with_reducible repeat (first | refine blk_drewN ?_ _ | refine blk_drew ?_ | refine blk_alloc ?_ _)); exact BK635.out)) : gb635 ≠ gb670)); have n10_ := Aside0.mk ((by rw [hg]; exact Nat.ne_of_gt (blk_lt (g := gb635) (o := .cells #[.int .i64 x636000_2, .int .i64 x636001_2] 25 (0, 0)) (by (with_reducible repeat (first | refine blk_drewN ?_ _ | refine blk_drew ?_ | refine blk_alloc ?_ _)); refine blk_far ?_ NB635_669.out _; (with_reducible repeat (first | refine blk_drewN ?_ _ | refine blk_drew ?_ | refine blk_alloc ?_ _)); refine blk_far ?_ NB635_669.out _; (with_reducible repeat (first | refine blk_drewN ?_ _ | refine blk_drew ?_ | refine blk_alloc ?_ _)); exact BK635.out)) : gb670 ≠ gb635)); have n11_ := Aside0.mk ((by rw [hg]; exact Nat.ne_of_lt (blk_lt (g := gb636) (o := .cells #[.int .i64 x637000_3, .int .i64 x637001_3] 25 (0, 0)) (by (with_reducible repeat (first | refine blk_drewN ?_ _ | refine blk_drew ?_ | refine blk_alloc ?_ _)); refine blk_far ?_ NB636_669.out _; (with_reducible repeat (first | refine blk_drewN ?_ _ | refine blk_drew ?_ | refine blk_alloc ?_ _)); refine blk_far ?_ NB636_669.out _; (with_reducible repeat (first | refine blk_drewN ?_ _ | refine blk_drew ?_ | refine blk_alloc ?_ _)); exact BK636.out)) : gb636 ≠ gb670)); have n12_ := Aside0.mk ((by rw [hg]; exact Nat.ne_of_gt (blk_lt (g := gb636) (o := .cells #[.int .i64 x637000_3, .int .i64 x637001_3] 25 (0, 0)) (by (with_reducible repeat (first | refine blk_drewN ?_ _ | refine blk_drew ?_ | refine blk_alloc ?_ _)); refine blk_far ?_ NB636_669.out _; (with_reducible repeat (first | refine blk_drewN ?_ _ | refine blk_drew ?_ | refine blk_alloc ?_ _)); refine blk_far ?_ NB636_669.out _; (with_reducible repeat (first | refine blk_drewN ?_ _ | refine blk_drew ?_ | refine blk_alloc ?_ _)); exact BK636.out)) : gb670 ≠ gb636)); have n13_ := Aside0.mk ((by rw [hg]; exact Nat.ne_of_lt (blk_lt (g := gb637) (o := .cells #[.int .i64 x638000_3, .int .i64 x638001_3] 25 (0, 0)) (by (with_reducible repeat (first | refine blk_drewN ?_ _ | refine blk_drew ?_ | refine blk_alloc ?_ _)); refine blk_far ?_ NB637_669.out _; (with_reducible repeat (first | refine blk_drewN ?_ _ | refine blk_drew ?_ | refine blk_alloc ?_ _)); refine blk_far ?_ NB637_669.out _; (with_reducible repeat (first | refine blk_drewN ?_ _ | refine blk_drew ?_ | refine blk_alloc ?_ _)); exact BK637.out)) : gb637 ≠ gb670)); have n14_ := Aside0.mk ((by rw [hg]; exact Nat.ne_of_gt (blk_lt (g := gb637) (o := .cells #[.int .i64 x638000_3, .int .i64 x638001_3] 25 (0, 0)) (by (with_reducible repeat (first | refine blk_drewN ?_ _ | refine blk_drew ?_ | refine blk_alloc ?_ _)); refine blk_far ?_ NB637_669.out _; (with_reducible repeat (first | refine blk_drewN ?_ _ | refine blk_drew ?_ | refine blk_alloc ?_ _)); refine blk_far ?_ NB637_669.out _; (with_reducible repeat (first | refine blk_drewN ?_ _ | refine blk_drew ?_ | refine blk_alloc ?_ _)); exact BK637.out)) : gb670 ≠ gb637)); have n15_ := Aside0.mk ((by rw [hg]; exact Nat.ne_of_lt (blk_lt (g := gb669) (o := .cells #[.int .i64 t666, .int .i64 t667] 25 (0, 0)) (by (with_reducible repeat (first | refine blk_drewN ?_ _ | refine blk_drew ?_ | refine blk_alloc ?_ _)); refine blk_put (cs := #[.int .i64 t666, .int .i64 0]) ?_ 1 _ rfl; (with_reducible repeat (first | refine blk_drewN ?_ _ | refine blk_drew ?_ | refine blk_alloc ?_ _)); refine blk_put (cs := #[.int .i64 0, .int .i64 0]) ?_ 0 _ rfl; (with_reducible repeat (first | refine blk_drewN ?_ _ | refine blk_drew ?_ | refine blk_alloc ?_ _)); exact BK669.out)) : gb669 ≠ gb670)); have n16_ := Aside0.mk ((by rw [hg]; exact Nat.ne_of_gt (blk_lt (g := gb669) (o := .cells #[.int .i64 t666, .int .i64 t667] 25 (0, 0)) (by (with_reducible repeat (first | refine blk_drewN ?_ _ | refine blk_drew ?_ | refine blk_alloc ?_ _)); refine blk_put (cs := #[.int .i64 t666, .int .i64 0]) ?_ 1 _ rfl; (with_reducible repeat (first | refine blk_drewN ?_ _ | refine blk_drew ?_ | refine blk_alloc ?_ _)); refine blk_put (cs := #[.int .i64 0, .int .i64 0]) ?_ 0 _ rfl; (with_reducible repeat (first | refine blk_drewN ?_ _ | refine blk_drew ?_ | refine blk_alloc ?_ _)); exact BK669.out)) : gb670 ≠ gb669)); clear HO665; clear BK635; clear BK636; clear BK637; clear BK669; clear HB; have HO665 := n0_; have BK635 := n1_; have BK636 := n2_; have BK637 := n3_; have BK669 := n4_; have HB := n5_; have BK670 := n6_; have GW670 := n7_; have GE670 := n8_; have NB635_670 := n9_; have NB670_635 := n10_; have NB636_670 := n11_; have NB670_636 := n12_; have NB637_670 := n13_; have NB670_637 := n14_; have NB669_670 := n15_; have NB670_669 := n16_; clear n0_ n1_ n2_ n3_ n4_ n5_ n6_ n7_ n8_ n9_ n10_ n11_ n12_ n13_ n14_ n15_ n16_; clear hb hbox hg; have hnb187 := NB670_635.out; have hnc187 := NB635_670.out; have hnb188 := NB670_636.out; have hnc188 := NB636_670.out; have hnb189 := NB670_637.out; have hnc189 := NB637_670.out; have hnb190 := NB670_669.out; have hnc190 := NB669_670.out; have hcz191_0 : w186.cell? ⟨gb670, 0, none⟩ = some (.int .i64 0) := (blk_cell BK670.out 0).trans rfl; have hcz191_1 : w186.cell? ⟨gb670, 1, none⟩ = some (.int .i64 0) := (blk_cell BK670.out 1).trans rfl; have hfz191_0 := blk_frozen BK670.out 0; have hfz191_1 := blk_frozen BK670.out 1; have hcz192_0 : w186.cell? ⟨gb669, 0, none⟩ = some (.int .i64 t666) := (blk_cell BK669.out 0).trans rfl; have hcz192_1 : w186.cell? ⟨gb669, 1, none⟩ = some (.int .i64 t667) := (blk_cell BK669.out 1).trans rfl; have hfz192_0 := blk_frozen BK669.out 0; have hfz192_1 := blk_frozen BK669.out 1; have hnb193 := NB636_635.out; have hnc193 := NB635_636.out; have hnb194 := NB636_637.out; have hnc194 := NB637_636.out; have hcz195_0 : w186.cell? ⟨gb636, 0, none⟩ = some (.int .i64 x637000_3) := (blk_cell BK636.out 0).trans rfl; have hcz195_1 : w186.cell? ⟨gb636, 1, none⟩ = some (.int .i64 x637001_3) := (blk_cell BK636.out 1).trans rfl; have hfz195_0 := blk_frozen BK636.out 0; have hfz195_1 := blk_frozen BK636.out 1; have hnb196 := NB637_635.out; have hnc196 := NB635_637.out; have hcz197_0 : w186.cell? ⟨gb637, 0, none⟩ = some (.int .i64 x638000_3) := (blk_cell BK637.out 0).trans rfl; have hcz197_1 : w186.cell? ⟨gb637, 1, none⟩ = some (.int .i64 x638001_3) := (blk_cell BK637.out 1).trans rfl; have hfz197_0 := blk_frozen BK637.out 0; have hfz197_1 := blk_frozen BK637.out 1; have hcz198_0 : w186.cell? ⟨gb635, 0, none⟩ = some (.int .i64 x636000_2) := (blk_cell BK635.out 0).trans rfl; have hcz198_1 : w186.cell? ⟨gb635, 1, none⟩ = some (.int .i64 x636001_2) := (blk_cell BK635.out 1).trans rfl; have hfz198_0 := blk_frozen BK635.out 0; have hfz198_1 := blk_frozen BK635.out 1) | (go_at_call 20; (with_reducible refine (comfitlaw04_awake.calls k3  t672 _ A177.out).mono ?_); rintro e w199 ⟨rfl, hb⟩; have n0_ := Aside0.mk (Kd.R_below (kr_ ((Kd.R_mono (Kd.R_far (p := ⟨gb670, 1, none⟩) (Kd.R_far (p := ⟨gb670, 0, none⟩) (Kd.R_types HO665.out BK670.out (by decide)) (fun _ hk => hk.2) (.int .i64 1)) (fun _ hk => hk.2) (.int .i64 1)) (fun _ h_ => h_.1)))) hb); have n1_ := Aside0.mk (blk_below (g := gb635) (o := .cells #[.int .i64 x636000_2, .int .i64 x636001_2] 25 (0, 0)) (by (with_reducible repeat (first | refine blk_drewN ?_ _ | refine blk_drew ?_ | refine blk_alloc ?_ _)); refine blk_far ?_ NB635_670.out _; (with_reducible repeat (first | refine blk_drewN ?_ _ | refine blk_drew ?_ | refine blk_alloc ?_ _)); refine blk_far ?_ NB635_670.out _; (with_reducible repeat (first | refine blk_drewN ?_ _ | refine blk_drew ?_ | refine blk_alloc ?_ _)); exact BK635.out) hb); have n2_ := Aside0.mk (blk_below (g := gb636) (o := .cells #[.int .i64 x637000_3, .int .i64 x637001_3] 25 (0, 0)) (by (with_reducible repeat (first | refine blk_drewN ?_ _ | refine blk_drew ?_ | refine blk_alloc ?_ _)); refine blk_far ?_ NB636_670.out _; (with_reducible repeat (first | refine blk_drewN ?_ _ | refine blk_drew ?_ | refine blk_alloc ?_ _)); refine blk_far ?_ NB636_670.out _; (with_reducible repeat (first | refine blk_drewN ?_ _ | refine blk_drew ?_ | refine blk_alloc ?_ _)); exact BK636.out) hb); have n3_ := Aside0.mk (blk_below (g := gb637) (o := .cells #[.int .i64 x638000_3, .int .i64 x638001_3] 25 (0, 0)) (by (with_reducible repeat (first | refine blk_drewN ?_ _ | refine blk_drew ?_ | refine blk_alloc ?_ _)); refine blk_far ?_ NB637_670.out _; (with_reducible repeat (first | refine blk_drewN ?_ _ | refine blk_drew ?_ | refine blk_alloc ?_ _)); refine blk_far ?_ NB637_670.out _; (with_reducible repeat (first | refine blk_drewN ?_ _ | refine blk_drew ?_ | refine blk_alloc ?_ _)); exact BK637.out) hb); have n4_ := Aside0.mk (blk_below (g := gb669) (o := .cells #[.int .i64 t666, .int .i64 t667] 25 (0, 0)) (by (with_reducible repeat (first | refine blk_drewN ?_ _ | refine blk_drew ?_ | refine blk_alloc ?_ _)); refine blk_far ?_ NB669_670.out _; (with_reducible repeat (first | refine blk_drewN ?_ _ | refine blk_drew ?_ | refine blk_alloc ?_ _)); refine blk_far ?_ NB669_670.out _; (with_reducible repeat (first | refine blk_drewN ?_ _ | refine blk_drew ?_ | refine blk_alloc ?_ _)); exact BK669.out) hb); have n5_ := Aside0.mk (blk_below (g := gb670) (o := .cells #[.int .i64 1, .int .i64 1] 25 (0, 0)) (by (with_reducible repeat (first | refine blk_drewN ?_ _ | refine blk_drew ?_ | refine blk_alloc ?_ _)); refine blk_put (cs := #[.int .i64 1, .int .i64 0]) ?_ 1 _ rfl; (with_reducible repeat (first | refine blk_drewN ?_ _ | refine blk_drew ?_ | refine blk_alloc ?_ _)); refine blk_put (cs := #[.int .i64 0, .int .i64 0]) ?_ 0 _ rfl; (with_reducible repeat (first | refine blk_drewN ?_ _ | refine blk_drew ?_ | refine blk_alloc ?_ _)); exact BK670.out) hb); have n6_ := Aside0.mk (below_step (hb_ HB.out) hb); clear HO665; clear BK635; clear BK636; clear BK637; clear BK669; clear BK670; clear HB; have HO665 := n0_; have BK635 := n1_; have BK636 := n2_; have BK637 := n3_; have BK669 := n4_; have BK670 := n5_; have HB := n6_; clear n0_ n1_ n2_ n3_ n4_ n5_ n6_; (try clear hb); (try clear hb2); (try clear hk); (try clear hi)))
               go_ret
               exact ⟨by first | rfl | (simp [errW_none, errW_some] <;> rfl) | (simp only [← hji76]; first | rfl | (simp [errW_none, errW_some] <;> rfl)) | (simp [*, errW_none, errW_some] <;> rfl), by repeat (first | (with_reducible first | exact HB.out | apply below_alloc | apply pw_below_drewN | apply below_drew1 | refine below_set ?_ GE635.out | refine below_set ?_ GE636.out | refine below_set ?_ GE637.out | refine below_set ?_ GE669.out | refine below_set ?_ GE670.out) | exact HB.out)⟩
              ·rw [if_neg c176] at H
               have c176b0 : (x636000_2 == 1 && (x636001_2 == 1)) = false := by simpa using c176
               (try (have c176b1 : decide (x636000_2 = 1 && (x636001_2 == 1)) = false := by simpa using c176))
               (try (have c176b2 : (x636000_2 == 1 && (x636001_2 == 1)) = false := by simpa using c176))
               (try (have c176b3 : ¬ (x636000_2 = 1 && (x636001_2 == 1)) := by simpa using c176))
               clear c176
               obtain rfl := Option.some.inj H
               go_wp2_with (first | ((with_reducible refine gate_callee (f := 22) rfl ?_); refine goesL_ (some 130) rfl rfl Try.func22 (by kernel_rfl) rfl #[.slice A0 l0.length c0] rfl al_ ?_; (with_reducible refine (comfitlaw04_list.calls _ _ l0 t663 _ ?side1 ?side2 A148.out).mono ?_); (case side1 => exact kc_ (Kd.C_below HR0.out HB.out)); (case side2 => exact HC0.out); rintro e w200 ⟨v664, rfl, ho0, hb⟩; refine ⟨_, rfl, ?_⟩; have n0_ := Aside0.mk (Kd.R_lower ho0 (below_size (hb_ HB.out))); have n1_ := Aside0.mk (bkb_ BK635.out hb); have n2_ := Aside0.mk (bkb_ BK636.out hb); have n3_ := Aside0.mk (bkb_ BK637.out hb); have n4_ := Aside0.mk (below_step (hb_ HB.out) hb); clear BK635; clear BK636; clear BK637; clear HB; have HO665 := n0_; have BK635 := n1_; have BK636 := n2_; have BK637 := n3_; have HB := n4_; clear n0_ n1_ n2_ n3_ n4_; (try clear hb); (try clear hb2); (try clear hk); (try clear hi); (try clear ho0); obtain ⟨Ao201, co201, eo201⟩ := Kd.R_slice HO665.out; subst eo201) | ((with_reducible refine gate_callee (f := 37) rfl ?_); refine goesL_ (some 133) rfl rfl Try.func37 (by kernel_rfl) rfl #[.slice Ao201 t663.length co201, .int .i64 a1, .int .i64 a2] rfl al_ ?_; (with_reducible refine (packets_Done.calls k3 _ _ t663 a1 a2 t666 t667 t668 _ ?side1 ?side2 A149.out).mono ?_); (case side1 => exact kc_ (Kd.R_reads' HO665.out).2.2); (case side2 => exact (Kd.R_reads' HO665.out).2.1); rintro e w202 ⟨rfl, hb⟩; refine ⟨_, rfl, ?_⟩; have n0_ := Aside0.mk (Kd.R_below (kr_ (HO665.out)) hb); have n1_ := Aside0.mk (bkb_ BK635.out hb); have n2_ := Aside0.mk (bkb_ BK636.out hb); have n3_ := Aside0.mk (bkb_ BK637.out hb); have n4_ := Aside0.mk (below_step (hb_ HB.out) hb); clear HO665; clear BK635; clear BK636; clear BK637; clear HB; have HO665 := n0_; have BK635 := n1_; have BK636 := n2_; have BK637 := n3_; have HB := n4_; clear n0_ n1_ n2_ n3_ n4_; (try clear hb); (try clear hb2); (try clear hk); (try clear hi)) | ((with_reducible refine gate_dst (N := 20) rfl ?_); refine box_event ?hg (N := 20) ?hd (cs := #[.int .i64 0, .int .i64 0]) (t := 25) ?hr ?_; (case hd => rfl); (case hg => rfl); (case hr => first | (go_simp; done) | (go_simp; rfl)); intro gb669 hg w203 hbox hb; have n0_ := Aside0.mk (Kd.R_below (kr_ (HO665.out)) hb); have n1_ := Aside0.mk (bkb_ BK635.out hb); have n2_ := Aside0.mk (bkb_ BK636.out hb); have n3_ := Aside0.mk (bkb_ BK637.out hb); have n4_ := Aside0.mk (below_step (hb_ HB.out) hb); have n5_ := Aside0.mk (hbox); have n6_ := Aside0.mk ((by rw [hg]; exact (below_size (hb_ HB.out)) : w.heap.size ≤ gb669)); have n7_ := Aside0.mk ((by rw [hg]; exact (below_size (hb_ HB.out)) : w.heap.size ≤ gb669)); have n8_ := Aside0.mk ((by rw [hg]; exact Nat.ne_of_lt (bkl_ BK635.out) : gb635 ≠ gb669)); have n9_ := Aside0.mk ((by rw [hg]; exact Nat.ne_of_gt (bkl_ BK635.out) : gb669 ≠ gb635)); have n10_ := Aside0.mk ((by rw [hg]; exact Nat.ne_of_lt (bkl_ BK636.out) : gb636 ≠ gb669)); have n11_ := Aside0.mk ((by rw [hg]; exact Nat.ne_of_gt (bkl_ BK636.out) : gb669 ≠ gb636)); have n12_ := Aside0.mk ((by rw [hg]; exact Nat.ne_of_lt (bkl_ BK637.out) : gb637 ≠ gb669)); have n13_ := Aside0.mk ((by rw [hg]; exact Nat.ne_of_gt (bkl_ BK637.out) : gb669 ≠ gb637)); clear HO665; clear BK635; clear BK636; clear BK637; clear HB; have HO665 := n0_; have BK635 := n1_; have BK636 := n2_; have BK637 := n3_; have HB := n4_; have BK669 := n5_; have GW669 := n6_; have GE669 := n7_; have NB635_669 := n8_; have NB669_635 := n9_; have NB636_669 := n10_; have NB669_636 := n11_; have NB637_669 := n12_; have NB669_637 := n13_; clear n0_ n1_ n2_ n3_ n4_ n5_ n6_ n7_ n8_ n9_ n10_ n11_ n12_ n13_; clear hb hbox hg; have hnb204 := NB669_635.out; have hnc204 := NB635_669.out; have hnb205 := NB669_636.out; have hnc205 := NB636_669.out; have hnb206 := NB669_637.out; have hnc206 := NB637_669.out; have hcz207_0 : w203.cell? ⟨gb669, 0, none⟩ = some (.int .i64 0) := (blk_cell BK669.out 0).trans rfl; have hcz207_1 : w203.cell? ⟨gb669, 1, none⟩ = some (.int .i64 0) := (blk_cell BK669.out 1).trans rfl; have hfz207_0 := blk_frozen BK669.out 0; have hfz207_1 := blk_frozen BK669.out 1) | ((with_reducible refine gate_dst (N := 22) rfl ?_); refine box_event ?hg (N := 22) ?hd (cs := #[.int .i64 0, .int .i64 0]) (t := 25) ?hr ?_; (case hd => rfl); (case hg => rfl); (case hr => first | (go_simp; done) | (go_simp; rfl)); intro gb670 hg w208 hbox hb; have n0_ := Aside0.mk (Kd.R_below (kr_ ((Kd.R_mono (Kd.R_far (p := ⟨gb669, 1, none⟩) (Kd.R_far (p := ⟨gb669, 0, none⟩) (Kd.R_types HO665.out BK669.out (by decide)) (fun _ hk => hk.2) (.int .i64 t666)) (fun _ hk => hk.2) (.int .i64 t667)) (fun _ h_ => h_.1)))) hb); have n1_ := Aside0.mk (blk_below (g := gb635) (o := .cells #[.int .i64 x636000_2, .int .i64 x636001_2] 25 (0, 0)) (by (with_reducible repeat (first | refine blk_drewN ?_ _ | refine blk_drew ?_ | refine blk_alloc ?_ _)); refine blk_far ?_ NB635_669.out _; (with_reducible repeat (first | refine blk_drewN ?_ _ | refine blk_drew ?_ | refine blk_alloc ?_ _)); refine blk_far ?_ NB635_669.out _; (with_reducible repeat (first | refine blk_drewN ?_ _ | refine blk_drew ?_ | refine blk_alloc ?_ _)); exact BK635.out) hb); have n2_ := Aside0.mk (blk_below (g := gb636) (o := .cells #[.int .i64 x637000_3, .int .i64 x637001_3] 25 (0, 0)) (by (with_reducible repeat (first | refine blk_drewN ?_ _ | refine blk_drew ?_ | refine blk_alloc ?_ _)); refine blk_far ?_ NB636_669.out _; (with_reducible repeat (first | refine blk_drewN ?_ _ | refine blk_drew ?_ | refine blk_alloc ?_ _)); refine blk_far ?_ NB636_669.out _; (with_reducible repeat (first | refine blk_drewN ?_ _ | refine blk_drew ?_ | refine blk_alloc ?_ _)); exact BK636.out) hb); have n3_ := Aside0.mk (blk_below (g := gb637) (o := .cells #[.int .i64 x638000_3, .int .i64 x638001_3] 25 (0, 0)) (by (with_reducible repeat (first | refine blk_drewN ?_ _ | refine blk_drew ?_ | refine blk_alloc ?_ _)); refine blk_far ?_ NB637_669.out _; (with_reducible repeat (first | refine blk_drewN ?_ _ | refine blk_drew ?_ | refine blk_alloc ?_ _)); refine blk_far ?_ NB637_669.out _; (with_reducible repeat (first | refine blk_drewN ?_ _ | refine blk_drew ?_ | refine blk_alloc ?_ _)); exact BK637.out) hb); have n4_ := Aside0.mk (blk_below (g := gb669) (o := .cells #[.int .i64 t666, .int .i64 t667] 25 (0, 0)) (by (with_reducible repeat (first | refine blk_drewN ?_ _ | refine blk_drew ?_ | refine blk_alloc ?_ _)); refine blk_put (cs := #[.int .i64 t666, .int .i64 0]) ?_ 1 _ rfl; (with_reducible repeat (first | refine blk_drewN ?_ _ | refine blk_drew ?_ | refine blk_alloc ?_ _)); refine blk_put (cs := #[.int .i64 0, .int .i64 0]) ?_ 0 _ rfl; (with_reducible repeat (first | refine blk_drewN ?_ _ | refine blk_drew ?_ | refine blk_alloc ?_ _)); exact BK669.out) hb); have n5_ := Aside0.mk (below_step (hb_ HB.out) hb); have n6_ := Aside0.mk (hbox); have n7_ := Aside0.mk ((by rw [hg]; exact (below_size (hb_ HB.out)) : w.heap.size ≤ gb670)); have n8_ := Aside0.mk ((by rw [hg]; exact (below_size (hb_ HB.out)) : w.heap.size ≤ gb670)); have n9_ := Aside0.mk ((by rw [hg]; exact Nat.ne_of_lt (blk_lt (g := gb635) (o := .cells #[.int .i64 x636000_2, .int .i64 x636001_2] 25 (0, 0)) (by (with_reducible repeat (first | refine blk_drewN ?_ _ | refine blk_drew ?_ | refine blk_alloc ?_ _)); refine blk_far ?_ NB635_669.out _; (with_reducible repeat (first | refine blk_drewN ?_ _ | refine blk_drew ?_ | refine blk_alloc ?_ _)); refine blk_far ?_ NB635_669.out _; (with_reducible repeat (first | refine blk_drewN ?_ _ | refine blk_drew ?_ | refine blk_alloc ?_ _)); exact BK635.out)) : gb635 ≠ gb670)); have n10_ := Aside0.mk ((by rw [hg]; exact Nat.ne_of_gt (blk_lt (g := gb635) (o := .cells #[.int .i64 x636000_2, .int .i64 x636001_2] 25 (0, 0)) (by (with_reducible repeat (first | refine blk_drewN ?_ _ | refine blk_drew ?_ | refine blk_alloc ?_ _)); refine blk_far ?_ NB635_669.out _; (with_reducible repeat (first | refine blk_drewN ?_ _ | refine blk_drew ?_ | refine blk_alloc ?_ _)); refine blk_far ?_ NB635_669.out _; (with_reducible repeat (first | refine blk_drewN ?_ _ | refine blk_drew ?_ | refine blk_alloc ?_ _)); exact BK635.out)) : gb670 ≠ gb635)); have n11_ := Aside0.mk ((by rw [hg]; exact Nat.ne_of_lt (blk_lt (g := gb636) (o := .cells #[.int .i64 x637000_3, .int .i64 x637001_3] 25 (0, 0)) (by (with_reducible repeat (first | refine blk_drewN ?_ _ | refine blk_drew ?_ | refine blk_alloc ?_ _)); refine blk_far ?_ NB636_669.out _; (with_reducible repeat (first | refine blk_drewN ?_ _ | refine blk_drew ?_ | refine blk_alloc ?_ _)); refine blk_far ?_ NB636_669.out _; (with_reducible repeat (first | refine blk_drewN ?_ _ | refine blk_drew ?_ | refine blk_alloc ?_ _)); exact BK636.out)) : gb636 ≠ gb670)); have n12_ := Aside0.mk ((by rw [hg]; exact Nat.ne_of_gt (blk_lt (g := gb636) (o := .cells #[.int .i64 x637000_3, .int .i64 x637001_3] 25 (0, 0)) (by (with_reducible repeat (first | refine blk_drewN ?_ _ | refine blk_drew ?_ | refine blk_alloc ?_ _)); refine blk_far ?_ NB636_669.out _; (with_reducible repeat (first | refine blk_drewN ?_ _ | refine blk_drew ?_ | refine blk_alloc ?_ _)); refine blk_far ?_ NB636_669.out _; (with_reducible repeat (first | refine blk_drewN ?_ _ | refine blk_drew ?_ | refine blk_alloc ?_ _)); exact BK636.out)) : gb670 ≠ gb636)); have n13_ := Aside0.mk ((by rw [hg]; exact Nat.ne_of_lt (blk_lt (g := gb637) (o := .cells #[.int .i64 x638000_3, .int .i64 x638001_3] 25 (0, 0)) (by (with_reducible repeat (first | refine blk_drewN ?_ _ | refine blk_drew ?_ | refine blk_alloc ?_ _)); refine blk_far ?_ NB637_669.out _; (with_reducible repeat (first | refine blk_drewN ?_ _ | refine blk_drew ?_ | refine blk_alloc ?_ _)); refine blk_far ?_ NB637_669.out _; (with_reducible repeat (first | refine blk_drewN ?_ _ | refine blk_drew ?_ | refine blk_alloc ?_ _)); exact BK637.out)) : gb637 ≠ gb670)); have n14_ := Aside0.mk ((by rw [hg]; exact Nat.ne_of_gt (blk_lt (g := gb637) (o := .cells #[.int .i64 x638000_3, .int .i64 x638001_3] 25 (0, 0)) (by (with_reducible repeat (first | refine blk_drewN ?_ _ | refine blk_drew ?_ | refine blk_alloc ?_ _)); refine blk_far ?_ NB637_669.out _; (with_reducible repeat (first | refine blk_drewN ?_ _ | refine blk_drew ?_ | refine blk_alloc ?_ _)); refine blk_far ?_ NB637_669.out _; (with_reducible repeat (first | refine blk_drewN ?_ _ | refine blk_drew ?_ | refine blk_alloc ?_ _)); exact BK637.out)) : gb670 ≠ gb637)); have n15_ := Aside0.mk ((by rw [hg]; exact Nat.ne_of_lt (blk_lt (g := gb669) (o := .cells #[.int .i64 t666, .int .i64 t667] 25 (0, 0)) (by (with_reducible repeat (first | refine blk_drewN ?_ _ | refine blk_drew ?_ | refine blk_alloc ?_ _)); refine blk_put (cs := #[.int .i64 t666, .int .i64 0]) ?_ 1 _ rfl; (with_reducible repeat (first | refine blk_drewN ?_ _ | refine blk_drew ?_ | refine blk_alloc ?_ _)); refine blk_put (cs := #[.int .i64 0, .int .i64 0]) ?_ 0 _ rfl; (with_reducible repeat (first | refine blk_drewN ?_ _ | refine blk_drew ?_ | refine blk_alloc ?_ _)); exact BK669.out)) : gb669 ≠ gb670)); have n16_ := Aside0.mk ((by rw [hg]; exact Nat.ne_of_gt (blk_lt (g := gb669) (o := .cells #[.int .i64 t666, .int .i64 t667] 25 (0, 0)) (by (with_reducible repeat (first | refine blk_drewN ?_ _ | refine blk_drew ?_ | refine blk_alloc ?_ _)); refine blk_put (cs := #[.int .i64 t666, .int .i64 0]) ?_ 1 _ rfl; (with_reducible repeat (first | refine blk_drewN ?_ _ | refine blk_drew ?_ | refine blk_alloc ?_ _)); refine blk_put (cs := #[.int .i64 0, .int .i64 0]) ?_ 0 _ rfl; (with_reducible repeat (first | refine blk_drewN ?_ _ | refine blk_drew ?_ | refine blk_alloc ?_ _)); exact BK669.out)) : gb670 ≠ gb669)); clear HO665; clear BK635; clear BK636; clear BK637; clear BK669; clear HB; have HO665 := n0_; have BK635 := n1_; have BK636 := n2_; have BK637 := n3_; have BK669 := n4_; have HB := n5_; have BK670 := n6_; have GW670 := n7_; have GE670 := n8_; have NB635_670 := n9_; have NB670_635 := n10_; have NB636_670 := n11_; have NB670_636 := n12_; have NB637_670 := n13_; have NB670_637 := n14_; have NB669_670 := n15_; have NB670_669 := n16_; clear n0_ n1_ n2_ n3_ n4_ n5_ n6_ n7_ n8_ n9_ n10_ n11_ n12_ n13_ n14_ n15_ n16_; clear hb hbox hg; have hnb209 := NB670_635.out; have hnc209 := NB635_670.out; have hnb210 := NB670_636.out; have hnc210 := NB636_670.out; have hnb211 := NB670_637.out; have hnc211 := NB637_670.out; have hnb212 := NB670_669.out; have hnc212 := NB669_670.out; have hcz213_0 : w208.cell? ⟨gb670, 0, none⟩ = some (.int .i64 0) := (blk_cell BK670.out 0).trans rfl; have hcz213_1 : w208.cell? ⟨gb670, 1, none⟩ = some (.int .i64 0) := (blk_cell BK670.out 1).trans rfl; have hfz213_0 := blk_frozen BK670.out 0; have hfz213_1 := blk_frozen BK670.out 1; have hcz214_0 : w208.cell? ⟨gb669, 0, none⟩ = some (.int .i64 t666) := (blk_cell BK669.out 0).trans rfl; have hcz214_1 : w208.cell? ⟨gb669, 1, none⟩ = some (.int .i64 t667) := (blk_cell BK669.out 1).trans rfl; have hfz214_0 := blk_frozen BK669.out 0; have hfz214_1 := blk_frozen BK669.out 1; have hnb215 := NB636_635.out; have hnc215 := NB635_636.out; have hnb216 := NB636_637.out; have hnc216 := NB637_636.out; have hcz217_0 : w208.cell? ⟨gb636, 0, none⟩ = some (.int .i64 x637000_3) := (blk_cell BK636.out 0).trans rfl; have hcz217_1 : w208.cell? ⟨gb636, 1, none⟩ = some (.int .i64 x637001_3) := (blk_cell BK636.out 1).trans rfl; have hfz217_0 := blk_frozen BK636.out 0; have hfz217_1 := blk_frozen BK636.out 1; have hnb218 := NB637_635.out; have hnc218 := NB635_637.out; have hcz219_0 : w208.cell? ⟨gb637, 0, none⟩ = some (.int .i64 x638000_3) := (blk_cell BK637.out 0).trans rfl; have hcz219_1 : w208.cell? ⟨gb637, 1, none⟩ = some (.int .i64 x638001_3) := (blk_cell BK637.out 1).trans rfl; have hfz219_0 := blk_frozen BK637.out 0; have hfz219_1 := blk_frozen BK637.out 1; have hcz220_0 : w208.cell? ⟨gb635, 0, none⟩ = some (.int .i64 x636000_2) := (blk_cell BK635.out 0).trans rfl; have hcz220_1 : w208.cell? ⟨gb635, 1, none⟩ = some (.int .i64 x636001_2) := (blk_cell BK635.out 1).trans rfl; have hfz220_0 := blk_frozen BK635.out 0; have hfz220_1 := blk_frozen BK635.out 1))
               go_ret
               exact ⟨by first | rfl | (simp [errW_none, errW_some] <;> rfl) | (simp only [← hji76]; first | rfl | (simp [errW_none, errW_some] <;> rfl)) | (simp [*, errW_none, errW_some] <;> rfl), by repeat (first | (with_reducible first | exact HB.out | apply below_alloc | apply pw_below_drewN | apply below_drew1 | refine below_set ?_ GE635.out | refine below_set ?_ GE636.out | refine below_set ?_ GE637.out | refine below_set ?_ GE669.out | refine below_set ?_ GE670.out) | exact HB.out)⟩
            ·rw [if_neg c152] at H
             have c152b0 : (x638000_3 == 1 && (x638001_3 == 1)) = false := by simpa using c152
             (try (have c152b1 : decide (x638000_3 = 1 && (x638001_3 == 1)) = false := by simpa using c152))
             (try (have c152b2 : (x638000_3 == 1 && (x638001_3 == 1)) = false := by simpa using c152))
             (try (have c152b3 : ¬ (x638000_3 = 1 && (x638001_3 == 1)) := by simpa using c152))
             clear c152
             obtain rfl := Option.some.inj H
             go_wp2_with (first | ((with_reducible refine gate_callee (f := 22) rfl ?_); refine goesL_ (some 130) rfl rfl Try.func22 (by kernel_rfl) rfl #[.slice A0 l0.length c0] rfl al_ ?_; (with_reducible refine (comfitlaw04_list.calls _ _ l0 t663 _ ?side1 ?side2 A148.out).mono ?_); (case side1 => exact kc_ (Kd.C_below HR0.out HB.out)); (case side2 => exact HC0.out); rintro e w221 ⟨v664, rfl, ho0, hb⟩; refine ⟨_, rfl, ?_⟩; have n0_ := Aside0.mk (Kd.R_lower ho0 (below_size (hb_ HB.out))); have n1_ := Aside0.mk (bkb_ BK635.out hb); have n2_ := Aside0.mk (bkb_ BK636.out hb); have n3_ := Aside0.mk (bkb_ BK637.out hb); have n4_ := Aside0.mk (below_step (hb_ HB.out) hb); clear BK635; clear BK636; clear BK637; clear HB; have HO665 := n0_; have BK635 := n1_; have BK636 := n2_; have BK637 := n3_; have HB := n4_; clear n0_ n1_ n2_ n3_ n4_; (try clear hb); (try clear hb2); (try clear hk); (try clear hi); (try clear ho0); obtain ⟨Ao222, co222, eo222⟩ := Kd.R_slice HO665.out; subst eo222) | ((with_reducible refine gate_callee (f := 37) rfl ?_); refine goesL_ (some 133) rfl rfl Try.func37 (by kernel_rfl) rfl #[.slice Ao222 t663.length co222, .int .i64 a1, .int .i64 a2] rfl al_ ?_; (with_reducible refine (packets_Done.calls k3 _ _ t663 a1 a2 t666 t667 t668 _ ?side1 ?side2 A149.out).mono ?_); (case side1 => exact kc_ (Kd.R_reads' HO665.out).2.2); (case side2 => exact (Kd.R_reads' HO665.out).2.1); rintro e w223 ⟨rfl, hb⟩; refine ⟨_, rfl, ?_⟩; have n0_ := Aside0.mk (Kd.R_below (kr_ (HO665.out)) hb); have n1_ := Aside0.mk (bkb_ BK635.out hb); have n2_ := Aside0.mk (bkb_ BK636.out hb); have n3_ := Aside0.mk (bkb_ BK637.out hb); have n4_ := Aside0.mk (below_step (hb_ HB.out) hb); clear HO665; clear BK635; clear BK636; clear BK637; clear HB; have HO665 := n0_; have BK635 := n1_; have BK636 := n2_; have BK637 := n3_; have HB := n4_; clear n0_ n1_ n2_ n3_ n4_; (try clear hb); (try clear hb2); (try clear hk); (try clear hi)) | ((with_reducible refine gate_dst (N := 20) rfl ?_); refine box_event ?hg (N := 20) ?hd (cs := #[.int .i64 0, .int .i64 0]) (t := 25) ?hr ?_; (case hd => rfl); (case hg => rfl); (case hr => first | (go_simp; done) | (go_simp; rfl)); intro gb669 hg w224 hbox hb; have n0_ := Aside0.mk (Kd.R_below (kr_ (HO665.out)) hb); have n1_ := Aside0.mk (bkb_ BK635.out hb); have n2_ := Aside0.mk (bkb_ BK636.out hb); have n3_ := Aside0.mk (bkb_ BK637.out hb); have n4_ := Aside0.mk (below_step (hb_ HB.out) hb); have n5_ := Aside0.mk (hbox); have n6_ := Aside0.mk ((by rw [hg]; exact (below_size (hb_ HB.out)) : w.heap.size ≤ gb669)); have n7_ := Aside0.mk ((by rw [hg]; exact (below_size (hb_ HB.out)) : w.heap.size ≤ gb669)); have n8_ := Aside0.mk ((by rw [hg]; exact Nat.ne_of_lt (bkl_ BK635.out) : gb635 ≠ gb669)); have n9_ := Aside0.mk ((by rw [hg]; exact Nat.ne_of_gt (bkl_ BK635.out) : gb669 ≠ gb635)); have n10_ := Aside0.mk ((by rw [hg]; exact Nat.ne_of_lt (bkl_ BK636.out) : gb636 ≠ gb669)); have n11_ := Aside0.mk ((by rw [hg]; exact Nat.ne_of_gt (bkl_ BK636.out) : gb669 ≠ gb636)); have n12_ := Aside0.mk ((by rw [hg]; exact Nat.ne_of_lt (bkl_ BK637.out) : gb637 ≠ gb669)); have n13_ := Aside0.mk ((by rw [hg]; exact Nat.ne_of_gt (bkl_ BK637.out) : gb669 ≠ gb637)); clear HO665; clear BK635; clear BK636; clear BK637; clear HB; have HO665 := n0_; have BK635 := n1_; have BK636 := n2_; have BK637 := n3_; have HB := n4_; have BK669 := n5_; have GW669 := n6_; have GE669 := n7_; have NB635_669 := n8_; have NB669_635 := n9_; have NB636_669 := n10_; have NB669_636 := n11_; have NB637_669 := n12_; have NB669_637 := n13_; clear n0_ n1_ n2_ n3_ n4_ n5_ n6_ n7_ n8_ n9_ n10_ n11_ n12_ n13_; clear hb hbox hg; have hnb225 := NB669_635.out; have hnc225 := NB635_669.out; have hnb226 := NB669_636.out; have hnc226 := NB636_669.out; have hnb227 := NB669_637.out; have hnc227 := NB637_669.out; have hcz228_0 : w224.cell? ⟨gb669, 0, none⟩ = some (.int .i64 0) := (blk_cell BK669.out 0).trans rfl; have hcz228_1 : w224.cell? ⟨gb669, 1, none⟩ = some (.int .i64 0) := (blk_cell BK669.out 1).trans rfl; have hfz228_0 := blk_frozen BK669.out 0; have hfz228_1 := blk_frozen BK669.out 1) | ((with_reducible refine gate_dst (N := 22) rfl ?_); refine box_event ?hg (N := 22) ?hd (cs := #[.int .i64 0, .int .i64 0]) (t := 25) ?hr ?_; (case hd => rfl); (case hg => rfl); (case hr => first | (go_simp; done) | (go_simp; rfl)); intro gb670 hg w229 hbox hb; have n0_ := Aside0.mk (Kd.R_below (kr_ ((Kd.R_mono (Kd.R_far (p := ⟨gb669, 1, none⟩) (Kd.R_far (p := ⟨gb669, 0, none⟩) (Kd.R_types HO665.out BK669.out (by decide)) (fun _ hk => hk.2) (.int .i64 t666)) (fun _ hk => hk.2) (.int .i64 t667)) (fun _ h_ => h_.1)))) hb); have n1_ := Aside0.mk (blk_below (g := gb635) (o := .cells #[.int .i64 x636000_2, .int .i64 x636001_2] 25 (0, 0)) (by (with_reducible repeat (first | refine blk_drewN ?_ _ | refine blk_drew ?_ | refine blk_alloc ?_ _)); refine blk_far ?_ NB635_669.out _; (with_reducible repeat (first | refine blk_drewN ?_ _ | refine blk_drew ?_ | refine blk_alloc ?_ _)); refine blk_far ?_ NB635_669.out _; (with_reducible repeat (first | refine blk_drewN ?_ _ | refine blk_drew ?_ | refine blk_alloc ?_ _)); exact BK635.out) hb); have n2_ := Aside0.mk (blk_below (g := gb636) (o := .cells #[.int .i64 x637000_3, .int .i64 x637001_3] 25 (0, 0)) (by (with_reducible repeat (first | refine blk_drewN ?_ _ | refine blk_drew ?_ | refine blk_alloc ?_ _)); refine blk_far ?_ NB636_669.out _; (with_reducible repeat (first | refine blk_drewN ?_ _ | refine blk_drew ?_ | refine blk_alloc ?_ _)); refine blk_far ?_ NB636_669.out _; (with_reducible repeat (first | refine blk_drewN ?_ _ | refine blk_drew ?_ | refine blk_alloc ?_ _)); exact BK636.out) hb); have n3_ := Aside0.mk (blk_below (g := gb637) (o := .cells #[.int .i64 x638000_3, .int .i64 x638001_3] 25 (0, 0)) (by (with_reducible repeat (first | refine blk_drewN ?_ _ | refine blk_drew ?_ | refine blk_alloc ?_ _)); refine blk_far ?_ NB637_669.out _; (with_reducible repeat (first | refine blk_drewN ?_ _ | refine blk_drew ?_ | refine blk_alloc ?_ _)); refine blk_far ?_ NB637_669.out _; (with_reducible repeat (first | refine blk_drewN ?_ _ | refine blk_drew ?_ | refine blk_alloc ?_ _)); exact BK637.out) hb); have n4_ := Aside0.mk (blk_below (g := gb669) (o := .cells #[.int .i64 t666, .int .i64 t667] 25 (0, 0)) (by (with_reducible repeat (first | refine blk_drewN ?_ _ | refine blk_drew ?_ | refine blk_alloc ?_ _)); refine blk_put (cs := #[.int .i64 t666, .int .i64 0]) ?_ 1 _ rfl; (with_reducible repeat (first | refine blk_drewN ?_ _ | refine blk_drew ?_ | refine blk_alloc ?_ _)); refine blk_put (cs := #[.int .i64 0, .int .i64 0]) ?_ 0 _ rfl; (with_reducible repeat (first | refine blk_drewN ?_ _ | refine blk_drew ?_ | refine blk_alloc ?_ _)); exact BK669.out) hb); have n5_ := Aside0.mk (below_step (hb_ HB.out) hb); have n6_ := Aside0.mk (hbox); have n7_ := Aside0.mk ((by rw [hg]; exact (below_size (hb_ HB.out)) : w.heap.size ≤ gb670)); have n8_ := Aside0.mk ((by rw [hg]; exact (below_size (hb_ HB.out)) : w.heap.size ≤ gb670)); have n9_ := Aside0.mk ((by rw [hg]; exact Nat.ne_of_lt (blk_lt (g := gb635) (o := .cells #[.int .i64 x636000_2, .int .i64 x636001_2] 25 (0, 0)) (by (with_reducible repeat (first | refine blk_drewN ?_ _ | refine blk_drew ?_ | refine blk_alloc ?_ _)); refine blk_far ?_ NB635_669.out _; (with_reducible repeat (first | refine blk_drewN ?_ _ | refine blk_drew ?_ | refine blk_alloc ?_ _)); refine blk_far ?_ NB635_669.out _; (with_reducible repeat (first | refine blk_drewN ?_ _ | refine blk_drew ?_ | refine blk_alloc ?_ _)); exact BK635.out)) : gb635 ≠ gb670)); have n10_ := Aside0.mk ((by rw [hg]; exact Nat.ne_of_gt (blk_lt (g := gb635) (o := .cells #[.int .i64 x636000_2, .int .i64 x636001_2] 25 (0, 0)) (by (with_reducible repeat (first | refine blk_drewN ?_ _ | refine blk_drew ?_ | refine blk_alloc ?_ _)); refine blk_far ?_ NB635_669.out _; (with_reducible repeat (first | refine blk_drewN ?_ _ | refine blk_drew ?_ | refine blk_alloc ?_ _)); refine blk_far ?_ NB635_669.out _; (with_reducible repeat (first | refine blk_drewN ?_ _ | refine blk_drew ?_ | refine blk_alloc ?_ _)); exact BK635.out)) : gb670 ≠ gb635)); have n11_ := Aside0.mk ((by rw [hg]; exact Nat.ne_of_lt (blk_lt (g := gb636) (o := .cells #[.int .i64 x637000_3, .int .i64 x637001_3] 25 (0, 0)) (by (with_reducible repeat (first | refine blk_drewN ?_ _ | refine blk_drew ?_ | refine blk_alloc ?_ _)); refine blk_far ?_ NB636_669.out _; (with_reducible repeat (first | refine blk_drewN ?_ _ | refine blk_drew ?_ | refine blk_alloc ?_ _)); refine blk_far ?_ NB636_669.out _; (with_reducible repeat (first | refine blk_drewN ?_ _ | refine blk_drew ?_ | refine blk_alloc ?_ _)); exact BK636.out)) : gb636 ≠ gb670)); have n12_ := Aside0.mk ((by rw [hg]; exact Nat.ne_of_gt (blk_lt (g := gb636) (o := .cells #[.int .i64 x637000_3, .int .i64 x637001_3] 25 (0, 0)) (by (with_reducible repeat (first | refine blk_drewN ?_ _ | refine blk_drew ?_ | refine blk_alloc ?_ _)); refine blk_far ?_ NB636_669.out _; (with_reducible repeat (first | refine blk_drewN ?_ _ | refine blk_drew ?_ | refine blk_alloc ?_ _)); refine blk_far ?_ NB636_669.out _; (with_reducible repeat (first | refine blk_drewN ?_ _ | refine blk_drew ?_ | refine blk_alloc ?_ _)); exact BK636.out)) : gb670 ≠ gb636)); have n13_ := Aside0.mk ((by rw [hg]; exact Nat.ne_of_lt (blk_lt (g := gb637) (o := .cells #[.int .i64 x638000_3, .int .i64 x638001_3] 25 (0, 0)) (by (with_reducible repeat (first | refine blk_drewN ?_ _ | refine blk_drew ?_ | refine blk_alloc ?_ _)); refine blk_far ?_ NB637_669.out _; (with_reducible repeat (first | refine blk_drewN ?_ _ | refine blk_drew ?_ | refine blk_alloc ?_ _)); refine blk_far ?_ NB637_669.out _; (with_reducible repeat (first | refine blk_drewN ?_ _ | refine blk_drew ?_ | refine blk_alloc ?_ _)); exact BK637.out)) : gb637 ≠ gb670)); have n14_ := Aside0.mk ((by rw [hg]; exact Nat.ne_of_gt (blk_lt (g := gb637) (o := .cells #[.int .i64 x638000_3, .int .i64 x638001_3] 25 (0, 0)) (by (with_reducible repeat (first | refine blk_drewN ?_ _ | refine blk_drew ?_ | refine blk_alloc ?_ _)); refine blk_far ?_ NB637_669.out _; (with_reducible repeat (first | refine blk_drewN ?_ _ | refine blk_drew ?_ | refine blk_alloc ?_ _)); refine blk_far ?_ NB637_669.out _; (with_reducible repeat (first | refine blk_drewN ?_ _ | refine blk_drew ?_ | refine blk_alloc ?_ _)); exact BK637.out)) : gb670 ≠ gb637)); have n15_ := Aside0.mk ((by rw [hg]; exact Nat.ne_of_lt (blk_lt (g := gb669) (o := .cells #[.int .i64 t666, .int .i64 t667] 25 (0, 0)) (by (with_reducible repeat (first | refine blk_drewN ?_ _ | refine blk_drew ?_ | refine blk_alloc ?_ _)); refine blk_put (cs := #[.int .i64 t666, .int .i64 0]) ?_ 1 _ rfl; (with_reducible repeat (first | refine blk_drewN ?_ _ | refine blk_drew ?_ | refine blk_alloc ?_ _)); refine blk_put (cs := #[.int .i64 0, .int .i64 0]) ?_ 0 _ rfl; (with_reducible repeat (first | refine blk_drewN ?_ _ | refine blk_drew ?_ | refine blk_alloc ?_ _)); exact BK669.out)) : gb669 ≠ gb670)); have n16_ := Aside0.mk ((by rw [hg]; exact Nat.ne_of_gt (blk_lt (g := gb669) (o := .cells #[.int .i64 t666, .int .i64 t667] 25 (0, 0)) (by (with_reducible repeat (first | refine blk_drewN ?_ _ | refine blk_drew ?_ | refine blk_alloc ?_ _)); refine blk_put (cs := #[.int .i64 t666, .int .i64 0]) ?_ 1 _ rfl; (with_reducible repeat (first | refine blk_drewN ?_ _ | refine blk_drew ?_ | refine blk_alloc ?_ _)); refine blk_put (cs := #[.int .i64 0, .int .i64 0]) ?_ 0 _ rfl; (with_reducible repeat (first | refine blk_drewN ?_ _ | refine blk_drew ?_ | refine blk_alloc ?_ _)); exact BK669.out)) : gb670 ≠ gb669)); clear HO665; clear BK635; clear BK636; clear BK637; clear BK669; clear HB; have HO665 := n0_; have BK635 := n1_; have BK636 := n2_; have BK637 := n3_; have BK669 := n4_; have HB := n5_; have BK670 := n6_; have GW670 := n7_; have GE670 := n8_; have NB635_670 := n9_; have NB670_635 := n10_; have NB636_670 := n11_; have NB670_636 := n12_; have NB637_670 := n13_; have NB670_637 := n14_; have NB669_670 := n15_; have NB670_669 := n16_; clear n0_ n1_ n2_ n3_ n4_ n5_ n6_ n7_ n8_ n9_ n10_ n11_ n12_ n13_ n14_ n15_ n16_; clear hb hbox hg; have hnb230 := NB670_635.out; have hnc230 := NB635_670.out; have hnb231 := NB670_636.out; have hnc231 := NB636_670.out; have hnb232 := NB670_637.out; have hnc232 := NB637_670.out; have hnb233 := NB670_669.out; have hnc233 := NB669_670.out; have hcz234_0 : w229.cell? ⟨gb670, 0, none⟩ = some (.int .i64 0) := (blk_cell BK670.out 0).trans rfl; have hcz234_1 : w229.cell? ⟨gb670, 1, none⟩ = some (.int .i64 0) := (blk_cell BK670.out 1).trans rfl; have hfz234_0 := blk_frozen BK670.out 0; have hfz234_1 := blk_frozen BK670.out 1; have hcz235_0 : w229.cell? ⟨gb669, 0, none⟩ = some (.int .i64 t666) := (blk_cell BK669.out 0).trans rfl; have hcz235_1 : w229.cell? ⟨gb669, 1, none⟩ = some (.int .i64 t667) := (blk_cell BK669.out 1).trans rfl; have hfz235_0 := blk_frozen BK669.out 0; have hfz235_1 := blk_frozen BK669.out 1; have hnb236 := NB636_635.out; have hnc236 := NB635_636.out; have hnb237 := NB636_637.out; have hnc237 := NB637_636.out; have hcz238_0 : w229.cell? ⟨gb636, 0, none⟩ = some (.int .i64 x637000_3) := (blk_cell BK636.out 0).trans rfl; have hcz238_1 : w229.cell? ⟨gb636, 1, none⟩ = some (.int .i64 x637001_3) := (blk_cell BK636.out 1).trans rfl; have hfz238_0 := blk_frozen BK636.out 0; have hfz238_1 := blk_frozen BK636.out 1; have hnb239 := NB637_635.out; have hnc239 := NB635_637.out; have hcz240_0 : w229.cell? ⟨gb637, 0, none⟩ = some (.int .i64 x638000_3) := (blk_cell BK637.out 0).trans rfl; have hcz240_1 : w229.cell? ⟨gb637, 1, none⟩ = some (.int .i64 x638001_3) := (blk_cell BK637.out 1).trans rfl; have hfz240_0 := blk_frozen BK637.out 0; have hfz240_1 := blk_frozen BK637.out 1))
             go_ret
             exact ⟨by first | rfl | (simp [errW_none, errW_some] <;> rfl) | (simp only [← hji76]; first | rfl | (simp [errW_none, errW_some] <;> rfl)) | (simp [*, errW_none, errW_some] <;> rfl), by repeat (first | (with_reducible first | exact HB.out | apply below_alloc | apply pw_below_drewN | apply below_drew1 | refine below_set ?_ GE635.out | refine below_set ?_ GE636.out | refine below_set ?_ GE637.out | refine below_set ?_ GE669.out | refine below_set ?_ GE670.out) | exact HB.out)⟩
           ·rw [if_neg c151] at H
            have c151b0 : (t666 == x637000_3 && (t667 == x637001_3)) = false := by simpa using c151
            (try (have c151b1 : decide (t666 = x637000_3 && (t667 == x637001_3)) = false := by simpa using c151))
            (try (have c151b2 : (t666 == x637000_3 && (t667 == x637001_3)) = false := by simpa using c151))
            (try (have c151b3 : ¬ (t666 = x637000_3 && (t667 == x637001_3)) := by simpa using c151))
            clear c151
            obtain rfl := Option.some.inj H
            go_wp2_with (first | ((with_reducible refine gate_callee (f := 22) rfl ?_); refine goesL_ (some 130) rfl rfl Try.func22 (by kernel_rfl) rfl #[.slice A0 l0.length c0] rfl al_ ?_; (with_reducible refine (comfitlaw04_list.calls _ _ l0 t663 _ ?side1 ?side2 A148.out).mono ?_); (case side1 => exact kc_ (Kd.C_below HR0.out HB.out)); (case side2 => exact HC0.out); rintro e w241 ⟨v664, rfl, ho0, hb⟩; refine ⟨_, rfl, ?_⟩; have n0_ := Aside0.mk (Kd.R_lower ho0 (below_size (hb_ HB.out))); have n1_ := Aside0.mk (bkb_ BK635.out hb); have n2_ := Aside0.mk (bkb_ BK636.out hb); have n3_ := Aside0.mk (bkb_ BK637.out hb); have n4_ := Aside0.mk (below_step (hb_ HB.out) hb); clear BK635; clear BK636; clear BK637; clear HB; have HO665 := n0_; have BK635 := n1_; have BK636 := n2_; have BK637 := n3_; have HB := n4_; clear n0_ n1_ n2_ n3_ n4_; (try clear hb); (try clear hb2); (try clear hk); (try clear hi); (try clear ho0); obtain ⟨Ao242, co242, eo242⟩ := Kd.R_slice HO665.out; subst eo242) | ((with_reducible refine gate_callee (f := 37) rfl ?_); refine goesL_ (some 133) rfl rfl Try.func37 (by kernel_rfl) rfl #[.slice Ao242 t663.length co242, .int .i64 a1, .int .i64 a2] rfl al_ ?_; (with_reducible refine (packets_Done.calls k3 _ _ t663 a1 a2 t666 t667 t668 _ ?side1 ?side2 A149.out).mono ?_); (case side1 => exact kc_ (Kd.R_reads' HO665.out).2.2); (case side2 => exact (Kd.R_reads' HO665.out).2.1); rintro e w243 ⟨rfl, hb⟩; refine ⟨_, rfl, ?_⟩; have n0_ := Aside0.mk (Kd.R_below (kr_ (HO665.out)) hb); have n1_ := Aside0.mk (bkb_ BK635.out hb); have n2_ := Aside0.mk (bkb_ BK636.out hb); have n3_ := Aside0.mk (bkb_ BK637.out hb); have n4_ := Aside0.mk (below_step (hb_ HB.out) hb); clear HO665; clear BK635; clear BK636; clear BK637; clear HB; have HO665 := n0_; have BK635 := n1_; have BK636 := n2_; have BK637 := n3_; have HB := n4_; clear n0_ n1_ n2_ n3_ n4_; (try clear hb); (try clear hb2); (try clear hk); (try clear hi)) | ((with_reducible refine gate_dst (N := 20) rfl ?_); refine box_event ?hg (N := 20) ?hd (cs := #[.int .i64 0, .int .i64 0]) (t := 25) ?hr ?_; (case hd => rfl); (case hg => rfl); (case hr => first | (go_simp; done) | (go_simp; rfl)); intro gb669 hg w244 hbox hb; have n0_ := Aside0.mk (Kd.R_below (kr_ (HO665.out)) hb); have n1_ := Aside0.mk (bkb_ BK635.out hb); have n2_ := Aside0.mk (bkb_ BK636.out hb); have n3_ := Aside0.mk (bkb_ BK637.out hb); have n4_ := Aside0.mk (below_step (hb_ HB.out) hb); have n5_ := Aside0.mk (hbox); have n6_ := Aside0.mk ((by rw [hg]; exact (below_size (hb_ HB.out)) : w.heap.size ≤ gb669)); have n7_ := Aside0.mk ((by rw [hg]; exact (below_size (hb_ HB.out)) : w.heap.size ≤ gb669)); have n8_ := Aside0.mk ((by rw [hg]; exact Nat.ne_of_lt (bkl_ BK635.out) : gb635 ≠ gb669)); have n9_ := Aside0.mk ((by rw [hg]; exact Nat.ne_of_gt (bkl_ BK635.out) : gb669 ≠ gb635)); have n10_ := Aside0.mk ((by rw [hg]; exact Nat.ne_of_lt (bkl_ BK636.out) : gb636 ≠ gb669)); have n11_ := Aside0.mk ((by rw [hg]; exact Nat.ne_of_gt (bkl_ BK636.out) : gb669 ≠ gb636)); have n12_ := Aside0.mk ((by rw [hg]; exact Nat.ne_of_lt (bkl_ BK637.out) : gb637 ≠ gb669)); have n13_ := Aside0.mk ((by rw [hg]; exact Nat.ne_of_gt (bkl_ BK637.out) : gb669 ≠ gb637)); clear HO665; clear BK635; clear BK636; clear BK637; clear HB; have HO665 := n0_; have BK635 := n1_; have BK636 := n2_; have BK637 := n3_; have HB := n4_; have BK669 := n5_; have GW669 := n6_; have GE669 := n7_; have NB635_669 := n8_; have NB669_635 := n9_; have NB636_669 := n10_; have NB669_636 := n11_; have NB637_669 := n12_; have NB669_637 := n13_; clear n0_ n1_ n2_ n3_ n4_ n5_ n6_ n7_ n8_ n9_ n10_ n11_ n12_ n13_; clear hb hbox hg; have hnb245 := NB669_635.out; have hnc245 := NB635_669.out; have hnb246 := NB669_636.out; have hnc246 := NB636_669.out; have hnb247 := NB669_637.out; have hnc247 := NB637_669.out; have hcz248_0 : w244.cell? ⟨gb669, 0, none⟩ = some (.int .i64 0) := (blk_cell BK669.out 0).trans rfl; have hcz248_1 : w244.cell? ⟨gb669, 1, none⟩ = some (.int .i64 0) := (blk_cell BK669.out 1).trans rfl; have hfz248_0 := blk_frozen BK669.out 0; have hfz248_1 := blk_frozen BK669.out 1) | ((with_reducible refine gate_dst (N := 22) rfl ?_); refine box_event ?hg (N := 22) ?hd (cs := #[.int .i64 0, .int .i64 0]) (t := 25) ?hr ?_; (case hd => rfl); (case hg => rfl); (case hr => first | (go_simp; done) | (go_simp; rfl)); intro gb670 hg w249 hbox hb; have n0_ := Aside0.mk (Kd.R_below (kr_ ((Kd.R_mono (Kd.R_far (p := ⟨gb669, 1, none⟩) (Kd.R_far (p := ⟨gb669, 0, none⟩) (Kd.R_types HO665.out BK669.out (by decide)) (fun _ hk => hk.2) (.int .i64 t666)) (fun _ hk => hk.2) (.int .i64 t667)) (fun _ h_ => h_.1)))) hb); have n1_ := Aside0.mk (blk_below (g := gb635) (o := .cells #[.int .i64 x636000_2, .int .i64 x636001_2] 25 (0, 0)) (by (with_reducible repeat (first | refine blk_drewN ?_ _ | refine blk_drew ?_ | refine blk_alloc ?_ _)); refine blk_far ?_ NB635_669.out _; (with_reducible repeat (first | refine blk_drewN ?_ _ | refine blk_drew ?_ | refine blk_alloc ?_ _)); refine blk_far ?_ NB635_669.out _; (with_reducible repeat (first | refine blk_drewN ?_ _ | refine blk_drew ?_ | refine blk_alloc ?_ _)); exact BK635.out) hb); have n2_ := Aside0.mk (blk_below (g := gb636) (o := .cells #[.int .i64 x637000_3, .int .i64 x637001_3] 25 (0, 0)) (by (with_reducible repeat (first | refine blk_drewN ?_ _ | refine blk_drew ?_ | refine blk_alloc ?_ _)); refine blk_far ?_ NB636_669.out _; (with_reducible repeat (first | refine blk_drewN ?_ _ | refine blk_drew ?_ | refine blk_alloc ?_ _)); refine blk_far ?_ NB636_669.out _; (with_reducible repeat (first | refine blk_drewN ?_ _ | refine blk_drew ?_ | refine blk_alloc ?_ _)); exact BK636.out) hb); have n3_ := Aside0.mk (blk_below (g := gb637) (o := .cells #[.int .i64 x638000_3, .int .i64 x638001_3] 25 (0, 0)) (by (with_reducible repeat (first | refine blk_drewN ?_ _ | refine blk_drew ?_ | refine blk_alloc ?_ _)); refine blk_far ?_ NB637_669.out _; (with_reducible repeat (first | refine blk_drewN ?_ _ | refine blk_drew ?_ | refine blk_alloc ?_ _)); refine blk_far ?_ NB637_669.out _; (with_reducible repeat (first | refine blk_drewN ?_ _ | refine blk_drew ?_ | refine blk_alloc ?_ _)); exact BK637.out) hb); have n4_ := Aside0.mk (blk_below (g := gb669) (o := .cells #[.int .i64 t666, .int .i64 t667] 25 (0, 0)) (by (with_reducible repeat (first | refine blk_drewN ?_ _ | refine blk_drew ?_ | refine blk_alloc ?_ _)); refine blk_put (cs := #[.int .i64 t666, .int .i64 0]) ?_ 1 _ rfl; (with_reducible repeat (first | refine blk_drewN ?_ _ | refine blk_drew ?_ | refine blk_alloc ?_ _)); refine blk_put (cs := #[.int .i64 0, .int .i64 0]) ?_ 0 _ rfl; (with_reducible repeat (first | refine blk_drewN ?_ _ | refine blk_drew ?_ | refine blk_alloc ?_ _)); exact BK669.out) hb); have n5_ := Aside0.mk (below_step (hb_ HB.out) hb); have n6_ := Aside0.mk (hbox); have n7_ := Aside0.mk ((by rw [hg]; exact (below_size (hb_ HB.out)) : w.heap.size ≤ gb670)); have n8_ := Aside0.mk ((by rw [hg]; exact (below_size (hb_ HB.out)) : w.heap.size ≤ gb670)); have n9_ := Aside0.mk ((by rw [hg]; exact Nat.ne_of_lt (blk_lt (g := gb635) (o := .cells #[.int .i64 x636000_2, .int .i64 x636001_2] 25 (0, 0)) (by (with_reducible repeat (first | refine blk_drewN ?_ _ | refine blk_drew ?_ | refine blk_alloc ?_ _)); refine blk_far ?_ NB635_669.out _; (with_reducible repeat (first | refine blk_drewN ?_ _ | refine blk_drew ?_ | refine blk_alloc ?_ _)); refine blk_far ?_ NB635_669.out _; (with_reducible repeat (first | refine blk_drewN ?_ _ | refine blk_drew ?_ | refine blk_alloc ?_ _)); exact BK635.out)) : gb635 ≠ gb670)); have n10_ := Aside0.mk ((by rw [hg]; exact Nat.ne_of_gt (blk_lt (g := gb635) (o := .cells #[.int .i64 x636000_2, .int .i64 x636001_2] 25 (0, 0)) (by (with_reducible repeat (first | refine blk_drewN ?_ _ | refine blk_drew ?_ | refine blk_alloc ?_ _)); refine blk_far ?_ NB635_669.out _; (with_reducible repeat (first | refine blk_drewN ?_ _ | refine blk_drew ?_ | refine blk_alloc ?_ _)); refine blk_far ?_ NB635_669.out _; (with_reducible repeat (first | refine blk_drewN ?_ _ | refine blk_drew ?_ | refine blk_alloc ?_ _)); exact BK635.out)) : gb670 ≠ gb635)); have n11_ := Aside0.mk ((by rw [hg]; exact Nat.ne_of_lt (blk_lt (g := gb636) (o := .cells #[.int .i64 x637000_3, .int .i64 x637001_3] 25 (0, 0)) (by (with_reducible repeat (first | refine blk_drewN ?_ _ | refine blk_drew ?_ | refine blk_alloc ?_ _)); refine blk_far ?_ NB636_669.out _; (with_reducible repeat (first | refine blk_drewN ?_ _ | refine blk_drew ?_ | refine blk_alloc ?_ _)); refine blk_far ?_ NB636_669.out _; (with_reducible repeat (first | refine blk_drewN ?_ _ | refine blk_drew ?_ | refine blk_alloc ?_ _)); exact BK636.out)) : gb636 ≠ gb670)); have n12_ := Aside0.mk ((by rw [hg]; exact Nat.ne_of_gt (blk_lt (g := gb636) (o := .cells #[.int .i64 x637000_3, .int .i64 x637001_3] 25 (0, 0)) (by (with_reducible repeat (first | refine blk_drewN ?_ _ | refine blk_drew ?_ | refine blk_alloc ?_ _)); refine blk_far ?_ NB636_669.out _; (with_reducible repeat (first | refine blk_drewN ?_ _ | refine blk_drew ?_ | refine blk_alloc ?_ _)); refine blk_far ?_ NB636_669.out _; (with_reducible repeat (first | refine blk_drewN ?_ _ | refine blk_drew ?_ | refine blk_alloc ?_ _)); exact BK636.out)) : gb670 ≠ gb636)); have n13_ := Aside0.mk ((by rw [hg]; exact Nat.ne_of_lt (blk_lt (g := gb637) (o := .cells #[.int .i64 x638000_3, .int .i64 x638001_3] 25 (0, 0)) (by (with_reducible repeat (first | refine blk_drewN ?_ _ | refine blk_drew ?_ | refine blk_alloc ?_ _)); refine blk_far ?_ NB637_669.out _; (with_reducible repeat (first | refine blk_drewN ?_ _ | refine blk_drew ?_ | refine blk_alloc ?_ _)); refine blk_far ?_ NB637_669.out _; (with_reducible repeat (first | refine blk_drewN ?_ _ | refine blk_drew ?_ | refine blk_alloc ?_ _)); exact BK637.out)) : gb637 ≠ gb670)); have n14_ := Aside0.mk ((by rw [hg]; exact Nat.ne_of_gt (blk_lt (g := gb637) (o := .cells #[.int .i64 x638000_3, .int .i64 x638001_3] 25 (0, 0)) (by (with_reducible repeat (first | refine blk_drewN ?_ _ | refine blk_drew ?_ | refine blk_alloc ?_ _)); refine blk_far ?_ NB637_669.out _; (with_reducible repeat (first | refine blk_drewN ?_ _ | refine blk_drew ?_ | refine blk_alloc ?_ _)); refine blk_far ?_ NB637_669.out _; (with_reducible repeat (first | refine blk_drewN ?_ _ | refine blk_drew ?_ | refine blk_alloc ?_ _)); exact BK637.out)) : gb670 ≠ gb637)); have n15_ := Aside0.mk ((by rw [hg]; exact Nat.ne_of_lt (blk_lt (g := gb669) (o := .cells #[.int .i64 t666, .int .i64 t667] 25 (0, 0)) (by (with_reducible repeat (first | refine blk_drewN ?_ _ | refine blk_drew ?_ | refine blk_alloc ?_ _)); refine blk_put (cs := #[.int .i64 t666, .int .i64 0]) ?_ 1 _ rfl; (with_reducible repeat (first | refine blk_drewN ?_ _ | refine blk_drew ?_ | refine blk_alloc ?_ _)); refine blk_put (cs := #[.int .i64 0, .int .i64 0]) ?_ 0 _ rfl; (with_reducible repeat (first | refine blk_drewN ?_ _ | refine blk_drew ?_ | refine blk_alloc ?_ _)); exact BK669.out)) : gb669 ≠ gb670)); have n16_ := Aside0.mk ((by rw [hg]; exact Nat.ne_of_gt (blk_lt (g := gb669) (o := .cells #[.int .i64 t666, .int .i64 t667] 25 (0, 0)) (by (with_reducible repeat (first | refine blk_drewN ?_ _ | refine blk_drew ?_ | refine blk_alloc ?_ _)); refine blk_put (cs := #[.int .i64 t666, .int .i64 0]) ?_ 1 _ rfl; (with_reducible repeat (first | refine blk_drewN ?_ _ | refine blk_drew ?_ | refine blk_alloc ?_ _)); refine blk_put (cs := #[.int .i64 0, .int .i64 0]) ?_ 0 _ rfl; (with_reducible repeat (first | refine blk_drewN ?_ _ | refine blk_drew ?_ | refine blk_alloc ?_ _)); exact BK669.out)) : gb670 ≠ gb669)); clear HO665; clear BK635; clear BK636; clear BK637; clear BK669; clear HB; have HO665 := n0_; have BK635 := n1_; have BK636 := n2_; have BK637 := n3_; have BK669 := n4_; have HB := n5_; have BK670 := n6_; have GW670 := n7_; have GE670 := n8_; have NB635_670 := n9_; have NB670_635 := n10_; have NB636_670 := n11_; have NB670_636 := n12_; have NB637_670 := n13_; have NB670_637 := n14_; have NB669_670 := n15_; have NB670_669 := n16_; clear n0_ n1_ n2_ n3_ n4_ n5_ n6_ n7_ n8_ n9_ n10_ n11_ n12_ n13_ n14_ n15_ n16_; clear hb hbox hg; have hnb250 := NB670_635.out; have hnc250 := NB635_670.out; have hnb251 := NB670_636.out; have hnc251 := NB636_670.out; have hnb252 := NB670_637.out; have hnc252 := NB637_670.out; have hnb253 := NB670_669.out; have hnc253 := NB669_670.out; have hcz254_0 : w249.cell? ⟨gb670, 0, none⟩ = some (.int .i64 0) := (blk_cell BK670.out 0).trans rfl; have hcz254_1 : w249.cell? ⟨gb670, 1, none⟩ = some (.int .i64 0) := (blk_cell BK670.out 1).trans rfl; have hfz254_0 := blk_frozen BK670.out 0; have hfz254_1 := blk_frozen BK670.out 1; have hcz255_0 : w249.cell? ⟨gb669, 0, none⟩ = some (.int .i64 t666) := (blk_cell BK669.out 0).trans rfl; have hcz255_1 : w249.cell? ⟨gb669, 1, none⟩ = some (.int .i64 t667) := (blk_cell BK669.out 1).trans rfl; have hfz255_0 := blk_frozen BK669.out 0; have hfz255_1 := blk_frozen BK669.out 1; have hnb256 := NB636_635.out; have hnc256 := NB635_636.out; have hnb257 := NB636_637.out; have hnc257 := NB637_636.out; have hcz258_0 : w249.cell? ⟨gb636, 0, none⟩ = some (.int .i64 x637000_3) := (blk_cell BK636.out 0).trans rfl; have hcz258_1 : w249.cell? ⟨gb636, 1, none⟩ = some (.int .i64 x637001_3) := (blk_cell BK636.out 1).trans rfl; have hfz258_0 := blk_frozen BK636.out 0; have hfz258_1 := blk_frozen BK636.out 1))
            go_ret
            exact ⟨by first | rfl | (simp [errW_none, errW_some] <;> rfl) | (simp only [← hji76]; first | rfl | (simp [errW_none, errW_some] <;> rfl)) | (simp [*, errW_none, errW_some] <;> rfl), by repeat (first | (with_reducible first | exact HB.out | apply below_alloc | apply pw_below_drewN | apply below_drew1 | refine below_set ?_ GE635.out | refine below_set ?_ GE636.out | refine below_set ?_ GE637.out | refine below_set ?_ GE669.out | refine below_set ?_ GE670.out) | exact HB.out)⟩
          ·rw [if_neg c150] at H
           have c150b0 : (t668 == 0) = false := beq_eq_false_iff_ne.mpr c150
           have c150b1 : (t668 != 0) = true := bne_iff_ne.mpr c150
           obtain rfl := Option.some.inj H
           go_wp2_with (first | ((with_reducible refine gate_callee (f := 22) rfl ?_); refine goesL_ (some 130) rfl rfl Try.func22 (by kernel_rfl) rfl #[.slice A0 l0.length c0] rfl al_ ?_; (with_reducible refine (comfitlaw04_list.calls _ _ l0 t663 _ ?side1 ?side2 A148.out).mono ?_); (case side1 => exact kc_ (Kd.C_below HR0.out HB.out)); (case side2 => exact HC0.out); rintro e w259 ⟨v664, rfl, ho0, hb⟩; refine ⟨_, rfl, ?_⟩; have n0_ := Aside0.mk (Kd.R_lower ho0 (below_size (hb_ HB.out))); have n1_ := Aside0.mk (bkb_ BK635.out hb); have n2_ := Aside0.mk (bkb_ BK636.out hb); have n3_ := Aside0.mk (bkb_ BK637.out hb); have n4_ := Aside0.mk (below_step (hb_ HB.out) hb); clear BK635; clear BK636; clear BK637; clear HB; have HO665 := n0_; have BK635 := n1_; have BK636 := n2_; have BK637 := n3_; have HB := n4_; clear n0_ n1_ n2_ n3_ n4_; (try clear hb); (try clear hb2); (try clear hk); (try clear hi); (try clear ho0); obtain ⟨Ao260, co260, eo260⟩ := Kd.R_slice HO665.out; subst eo260) | ((with_reducible refine gate_callee (f := 37) rfl ?_); refine goesL_ (some 133) rfl rfl Try.func37 (by kernel_rfl) rfl #[.slice Ao260 t663.length co260, .int .i64 a1, .int .i64 a2] rfl al_ ?_; (with_reducible refine (packets_Done.calls k3 _ _ t663 a1 a2 t666 t667 t668 _ ?side1 ?side2 A149.out).mono ?_); (case side1 => exact kc_ (Kd.R_reads' HO665.out).2.2); (case side2 => exact (Kd.R_reads' HO665.out).2.1); rintro e w261 ⟨rfl, hb⟩; refine ⟨_, rfl, ?_⟩; have n0_ := Aside0.mk (Kd.R_below (kr_ (HO665.out)) hb); have n1_ := Aside0.mk (bkb_ BK635.out hb); have n2_ := Aside0.mk (bkb_ BK636.out hb); have n3_ := Aside0.mk (bkb_ BK637.out hb); have n4_ := Aside0.mk (below_step (hb_ HB.out) hb); clear HO665; clear BK635; clear BK636; clear BK637; clear HB; have HO665 := n0_; have BK635 := n1_; have BK636 := n2_; have BK637 := n3_; have HB := n4_; clear n0_ n1_ n2_ n3_ n4_; (try clear hb); (try clear hb2); (try clear hk); (try clear hi)) | ((with_reducible refine gate_dst (N := 20) rfl ?_); refine box_event ?hg (N := 20) ?hd (cs := #[.int .i64 0, .int .i64 0]) (t := 25) ?hr ?_; (case hd => rfl); (case hg => rfl); (case hr => first | (go_simp; done) | (go_simp; rfl)); intro gb669 hg w262 hbox hb; have n0_ := Aside0.mk (Kd.R_below (kr_ (HO665.out)) hb); have n1_ := Aside0.mk (bkb_ BK635.out hb); have n2_ := Aside0.mk (bkb_ BK636.out hb); have n3_ := Aside0.mk (bkb_ BK637.out hb); have n4_ := Aside0.mk (below_step (hb_ HB.out) hb); have n5_ := Aside0.mk (hbox); have n6_ := Aside0.mk ((by rw [hg]; exact (below_size (hb_ HB.out)) : w.heap.size ≤ gb669)); have n7_ := Aside0.mk ((by rw [hg]; exact (below_size (hb_ HB.out)) : w.heap.size ≤ gb669)); have n8_ := Aside0.mk ((by rw [hg]; exact Nat.ne_of_lt (bkl_ BK635.out) : gb635 ≠ gb669)); have n9_ := Aside0.mk ((by rw [hg]; exact Nat.ne_of_gt (bkl_ BK635.out) : gb669 ≠ gb635)); have n10_ := Aside0.mk ((by rw [hg]; exact Nat.ne_of_lt (bkl_ BK636.out) : gb636 ≠ gb669)); have n11_ := Aside0.mk ((by rw [hg]; exact Nat.ne_of_gt (bkl_ BK636.out) : gb669 ≠ gb636)); have n12_ := Aside0.mk ((by rw [hg]; exact Nat.ne_of_lt (bkl_ BK637.out) : gb637 ≠ gb669)); have n13_ := Aside0.mk ((by rw [hg]; exact Nat.ne_of_gt (bkl_ BK637.out) : gb669 ≠ gb637)); clear HO665; clear BK635; clear BK636; clear BK637; clear HB; have HO665 := n0_; have BK635 := n1_; have BK636 := n2_; have BK637 := n3_; have HB := n4_; have BK669 := n5_; have GW669 := n6_; have GE669 := n7_; have NB635_669 := n8_; have NB669_635 := n9_; have NB636_669 := n10_; have NB669_636 := n11_; have NB637_669 := n12_; have NB669_637 := n13_; clear n0_ n1_ n2_ n3_ n4_ n5_ n6_ n7_ n8_ n9_ n10_ n11_ n12_ n13_; clear hb hbox hg; have hnb263 := NB669_635.out; have hnc263 := NB635_669.out; have hnb264 := NB669_636.out; have hnc264 := NB636_669.out; have hnb265 := NB669_637.out; have hnc265 := NB637_669.out; have hcz266_0 : w262.cell? ⟨gb669, 0, none⟩ = some (.int .i64 0) := (blk_cell BK669.out 0).trans rfl; have hcz266_1 : w262.cell? ⟨gb669, 1, none⟩ = some (.int .i64 0) := (blk_cell BK669.out 1).trans rfl; have hfz266_0 := blk_frozen BK669.out 0; have hfz266_1 := blk_frozen BK669.out 1) | ((with_reducible refine gate_dst (N := 22) rfl ?_); refine box_event ?hg (N := 22) ?hd (cs := #[.int .i64 0, .int .i64 0]) (t := 25) ?hr ?_; (case hd => rfl); (case hg => rfl); (case hr => first | (go_simp; done) | (go_simp; rfl)); intro gb670 hg w267 hbox hb; have n0_ := Aside0.mk (Kd.R_below (kr_ ((Kd.R_mono (Kd.R_far (p := ⟨gb669, 1, none⟩) (Kd.R_far (p := ⟨gb669, 0, none⟩) (Kd.R_types HO665.out BK669.out (by decide)) (fun _ hk => hk.2) (.int .i64 t666)) (fun _ hk => hk.2) (.int .i64 t667)) (fun _ h_ => h_.1)))) hb); have n1_ := Aside0.mk (blk_below (g := gb635) (o := .cells #[.int .i64 x636000_2, .int .i64 x636001_2] 25 (0, 0)) (by (with_reducible repeat (first | refine blk_drewN ?_ _ | refine blk_drew ?_ | refine blk_alloc ?_ _)); refine blk_far ?_ NB635_669.out _; (with_reducible repeat (first | refine blk_drewN ?_ _ | refine blk_drew ?_ | refine blk_alloc ?_ _)); refine blk_far ?_ NB635_669.out _; (with_reducible repeat (first | refine blk_drewN ?_ _ | refine blk_drew ?_ | refine blk_alloc ?_ _)); exact BK635.out) hb); have n2_ := Aside0.mk (blk_below (g := gb636) (o := .cells #[.int .i64 x637000_3, .int .i64 x637001_3] 25 (0, 0)) (by (with_reducible repeat (first | refine blk_drewN ?_ _ | refine blk_drew ?_ | refine blk_alloc ?_ _)); refine blk_far ?_ NB636_669.out _; (with_reducible repeat (first | refine blk_drewN ?_ _ | refine blk_drew ?_ | refine blk_alloc ?_ _)); refine blk_far ?_ NB636_669.out _; (with_reducible repeat (first | refine blk_drewN ?_ _ | refine blk_drew ?_ | refine blk_alloc ?_ _)); exact BK636.out) hb); have n3_ := Aside0.mk (blk_below (g := gb637) (o := .cells #[.int .i64 x638000_3, .int .i64 x638001_3] 25 (0, 0)) (by (with_reducible repeat (first | refine blk_drewN ?_ _ | refine blk_drew ?_ | refine blk_alloc ?_ _)); refine blk_far ?_ NB637_669.out _; (with_reducible repeat (first | refine blk_drewN ?_ _ | refine blk_drew ?_ | refine blk_alloc ?_ _)); refine blk_far ?_ NB637_669.out _; (with_reducible repeat (first | refine blk_drewN ?_ _ | refine blk_drew ?_ | refine blk_alloc ?_ _)); exact BK637.out) hb); have n4_ := Aside0.mk (blk_below (g := gb669) (o := .cells #[.int .i64 t666, .int .i64 t667] 25 (0, 0)) (by (with_reducible repeat (first | refine blk_drewN ?_ _ | refine blk_drew ?_ | refine blk_alloc ?_ _)); refine blk_put (cs := #[.int .i64 t666, .int .i64 0]) ?_ 1 _ rfl; (with_reducible repeat (first | refine blk_drewN ?_ _ | refine blk_drew ?_ | refine blk_alloc ?_ _)); refine blk_put (cs := #[.int .i64 0, .int .i64 0]) ?_ 0 _ rfl; (with_reducible repeat (first | refine blk_drewN ?_ _ | refine blk_drew ?_ | refine blk_alloc ?_ _)); exact BK669.out) hb); have n5_ := Aside0.mk (below_step (hb_ HB.out) hb); have n6_ := Aside0.mk (hbox); have n7_ := Aside0.mk ((by rw [hg]; exact (below_size (hb_ HB.out)) : w.heap.size ≤ gb670)); have n8_ := Aside0.mk ((by rw [hg]; exact (below_size (hb_ HB.out)) : w.heap.size ≤ gb670)); have n9_ := Aside0.mk ((by rw [hg]; exact Nat.ne_of_lt (blk_lt (g := gb635) (o := .cells #[.int .i64 x636000_2, .int .i64 x636001_2] 25 (0, 0)) (by (with_reducible repeat (first | refine blk_drewN ?_ _ | refine blk_drew ?_ | refine blk_alloc ?_ _)); refine blk_far ?_ NB635_669.out _; (with_reducible repeat (first | refine blk_drewN ?_ _ | refine blk_drew ?_ | refine blk_alloc ?_ _)); refine blk_far ?_ NB635_669.out _; (with_reducible repeat (first | refine blk_drewN ?_ _ | refine blk_drew ?_ | refine blk_alloc ?_ _)); exact BK635.out)) : gb635 ≠ gb670)); have n10_ := Aside0.mk ((by rw [hg]; exact Nat.ne_of_gt (blk_lt (g := gb635) (o := .cells #[.int .i64 x636000_2, .int .i64 x636001_2] 25 (0, 0)) (by (with_reducible repeat (first | refine blk_drewN ?_ _ | refine blk_drew ?_ | refine blk_alloc ?_ _)); refine blk_far ?_ NB635_669.out _; (with_reducible repeat (first | refine blk_drewN ?_ _ | refine blk_drew ?_ | refine blk_alloc ?_ _)); refine blk_far ?_ NB635_669.out _; (with_reducible repeat (first | refine blk_drewN ?_ _ | refine blk_drew ?_ | refine blk_alloc ?_ _)); exact BK635.out)) : gb670 ≠ gb635)); have n11_ := Aside0.mk ((by rw [hg]; exact Nat.ne_of_lt (blk_lt (g := gb636) (o := .cells #[.int .i64 x637000_3, .int .i64 x637001_3] 25 (0, 0)) (by (with_reducible repeat (first | refine blk_drewN ?_ _ | refine blk_drew ?_ | refine blk_alloc ?_ _)); refine blk_far ?_ NB636_669.out _; (with_reducible repeat (first | refine blk_drewN ?_ _ | refine blk_drew ?_ | refine blk_alloc ?_ _)); refine blk_far ?_ NB636_669.out _; (with_reducible repeat (first | refine blk_drewN ?_ _ | refine blk_drew ?_ | refine blk_alloc ?_ _)); exact BK636.out)) : gb636 ≠ gb670)); have n12_ := Aside0.mk ((by rw [hg]; exact Nat.ne_of_gt (blk_lt (g := gb636) (o := .cells #[.int .i64 x637000_3, .int .i64 x637001_3] 25 (0, 0)) (by (with_reducible repeat (first | refine blk_drewN ?_ _ | refine blk_drew ?_ | refine blk_alloc ?_ _)); refine blk_far ?_ NB636_669.out _; (with_reducible repeat (first | refine blk_drewN ?_ _ | refine blk_drew ?_ | refine blk_alloc ?_ _)); refine blk_far ?_ NB636_669.out _; (with_reducible repeat (first | refine blk_drewN ?_ _ | refine blk_drew ?_ | refine blk_alloc ?_ _)); exact BK636.out)) : gb670 ≠ gb636)); have n13_ := Aside0.mk ((by rw [hg]; exact Nat.ne_of_lt (blk_lt (g := gb637) (o := .cells #[.int .i64 x638000_3, .int .i64 x638001_3] 25 (0, 0)) (by (with_reducible repeat (first | refine blk_drewN ?_ _ | refine blk_drew ?_ | refine blk_alloc ?_ _)); refine blk_far ?_ NB637_669.out _; (with_reducible repeat (first | refine blk_drewN ?_ _ | refine blk_drew ?_ | refine blk_alloc ?_ _)); refine blk_far ?_ NB637_669.out _; (with_reducible repeat (first | refine blk_drewN ?_ _ | refine blk_drew ?_ | refine blk_alloc ?_ _)); exact BK637.out)) : gb637 ≠ gb670)); have n14_ := Aside0.mk ((by rw [hg]; exact Nat.ne_of_gt (blk_lt (g := gb637) (o := .cells #[.int .i64 x638000_3, .int .i64 x638001_3] 25 (0, 0)) (by (with_reducible repeat (first | refine blk_drewN ?_ _ | refine blk_drew ?_ | refine blk_alloc ?_ _)); refine blk_far ?_ NB637_669.out _; (with_reducible repeat (first | refine blk_drewN ?_ _ | refine blk_drew ?_ | refine blk_alloc ?_ _)); refine blk_far ?_ NB637_669.out _; (with_reducible repeat (first | refine blk_drewN ?_ _ | refine blk_drew ?_ | refine blk_alloc ?_ _)); exact BK637.out)) : gb670 ≠ gb637)); have n15_ := Aside0.mk ((by rw [hg]; exact Nat.ne_of_lt (blk_lt (g := gb669) (o := .cells #[.int .i64 t666, .int .i64 t667] 25 (0, 0)) (by (with_reducible repeat (first | refine blk_drewN ?_ _ | refine blk_drew ?_ | refine blk_alloc ?_ _)); refine blk_put (cs := #[.int .i64 t666, .int .i64 0]) ?_ 1 _ rfl; (with_reducible repeat (first | refine blk_drewN ?_ _ | refine blk_drew ?_ | refine blk_alloc ?_ _)); refine blk_put (cs := #[.int .i64 0, .int .i64 0]) ?_ 0 _ rfl; (with_reducible repeat (first | refine blk_drewN ?_ _ | refine blk_drew ?_ | refine blk_alloc ?_ _)); exact BK669.out)) : gb669 ≠ gb670)); have n16_ := Aside0.mk ((by rw [hg]; exact Nat.ne_of_gt (blk_lt (g := gb669) (o := .cells #[.int .i64 t666, .int .i64 t667] 25 (0, 0)) (by (with_reducible repeat (first | refine blk_drewN ?_ _ | refine blk_drew ?_ | refine blk_alloc ?_ _)); refine blk_put (cs := #[.int .i64 t666, .int .i64 0]) ?_ 1 _ rfl; (with_reducible repeat (first | refine blk_drewN ?_ _ | refine blk_drew ?_ | refine blk_alloc ?_ _)); refine blk_put (cs := #[.int .i64 0, .int .i64 0]) ?_ 0 _ rfl; (with_reducible repeat (first | refine blk_drewN ?_ _ | refine blk_drew ?_ | refine blk_alloc ?_ _)); exact BK669.out)) : gb670 ≠ gb669)); clear HO665; clear BK635; clear BK636; clear BK637; clear BK669; clear HB; have HO665 := n0_; have BK635 := n1_; have BK636 := n2_; have BK637 := n3_; have BK669 := n4_; have HB := n5_; have BK670 := n6_; have GW670 := n7_; have GE670 := n8_; have NB635_670 := n9_; have NB670_635 := n10_; have NB636_670 := n11_; have NB670_636 := n12_; have NB637_670 := n13_; have NB670_637 := n14_; have NB669_670 := n15_; have NB670_669 := n16_; clear n0_ n1_ n2_ n3_ n4_ n5_ n6_ n7_ n8_ n9_ n10_ n11_ n12_ n13_ n14_ n15_ n16_; clear hb hbox hg; have hnb268 := NB670_635.out; have hnc268 := NB635_670.out; have hnb269 := NB670_636.out; have hnc269 := NB636_670.out; have hnb270 := NB670_637.out; have hnc270 := NB637_670.out; have hnb271 := NB670_669.out; have hnc271 := NB669_670.out; have hcz272_0 : w267.cell? ⟨gb670, 0, none⟩ = some (.int .i64 0) := (blk_cell BK670.out 0).trans rfl; have hcz272_1 : w267.cell? ⟨gb670, 1, none⟩ = some (.int .i64 0) := (blk_cell BK670.out 1).trans rfl; have hfz272_0 := blk_frozen BK670.out 0; have hfz272_1 := blk_frozen BK670.out 1))
           go_ret
           exact ⟨by first | rfl | (simp [errW_none, errW_some] <;> rfl) | (simp only [← hji76]; first | rfl | (simp [errW_none, errW_some] <;> rfl)) | (simp [*, errW_none, errW_some] <;> rfl), by repeat (first | (with_reducible first | exact HB.out | apply below_alloc | apply pw_below_drewN | apply below_drew1 | refine below_set ?_ GE635.out | refine below_set ?_ GE636.out | refine below_set ?_ GE637.out | refine below_set ?_ GE669.out | refine below_set ?_ GE670.out) | exact HB.out)⟩

/-- THE ONE PURE STATEMENT of comfitlaw04_PacketsSum: yours. -/
def comfitlaw04_PacketsSum.Pure : Prop := ∀ (l0 : List Int) (a1 : Int) (a2 : Int), l0.length ≤ maxLen → l0.length * 8 ≤ 140737488351232 → (∀ x ∈ l0, (Lit.int .i64 x).wf = true) → (Lit.int .i64 a1).wf = true → (Lit.int .i64 a2).wf = true → ∃ k, comfitlaw04_PacketsSum.f k l0 a1 a2 = some true
theorem comfitlaw04_PacketsSum.walk (P : comfitlaw04_PacketsSum.Pure) (a0 : Option Addr) (len0 cap0 : Nat) (z0 : List Int) (a1 : Int) (a2 : Int) (w : World) (w0 : (a0 = none ∧ len0 = 0 ∧ cap0 = 0 ∧ z0 = []) ∨ ∃ x, a0 = some x ∧ len0 ≤ cap0 ∧ cap0 ≤ maxLen ∧ z0.length = cap0 ∧ (∀ i, i < z0.length → w.cell? (x.add i) = some (.int .i64 (z0.getD i 0))) ∧ ∀ n ∈ z0, (Lit.int .i64 n).wf = true) (y0 : len0 * 8 ≤ 140737488351232) (w1 : (Lit.int .i64 a1).wf = true) (w2 : (Lit.int .i64 a2).wf = true) :
  Calls Try.prog 16 #[.slice a0 len0 cap0, .int .i64 a1, .int .i64 a2] w fun e w' => e = .returned (.bool true) ∧ Below w.heap.size w w' := by
 obtain ⟨l0, rfl, hr0, hm0, hw0, hc0⟩ := ReadsInt.ofRowC w0
 obtain ⟨k, h⟩ := P l0 a1 a2 hm0 y0 hw0 w1 w2
 refine (comfitlaw04_PacketsSum.calls k _ _ l0 a1 a2 true w (Kd.C_of_reads (d := (0 : Int)) (h1 := fun _ => rfl) hr0) hc0 h).mono ?_
 rintro e w' ⟨rfl, hd⟩
 exact ⟨rfl, hd⟩

end Go.Proofs.Ytigmhomfadimnaa.X
