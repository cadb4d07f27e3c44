/- Written by a program of this session (wip/tools/xprint.py, which calls the kit's print): Go functions as Lean functions, and for each the proof that the machine's call does what it says; no conditions but those that each theorem names. -/
import Derived.Test.YtjmbjnobbeflfaaQX0
import Derived.Test.YtjmbjnobbeflfaaQXE
import Derived.Test.YtjmbjnobbeflfaaQXEq
import Derived.Test.YtjmbjnobbeflfaaQXG
import Derived.Test.YtjmbjnobbeflfaaQXM
import Derived.Test.YtjmbjnobbeflfaaQXO
import Derived.Test.YtjmbjnobbeflfaaQXRJ
import Derived.Test.YtjmbjnobbeflfaaQXtagsCheckCircle
import Derived.Test.YtjmbjnobbeflfaaQXtagsCircle
namespace Go.Proofs.Ytjmbjnobbeflfaa.X
open Go.RowKit Go.Proofs.YtjmbjnobbeflfaaW.PrintWords Go.Proofs.YtjmbjnobbeflfaaW.PrintLast Go.Proofs.YtjmbjnobbeflfaaW.PrintMore
attribute [local go_sem] max2_int min2_int max_two min_two max_three min_three max_four min_four   -- for this text's walks alone
set_option linter.unusedVariables false
set_option linter.unusedSimpArgs false

attribute [local go_sem high] eqA23
/-! ### comfitlaw06_TagsCircles: function 6 -/
mutual
def comfitlaw06_TagsCircles.j0 : Nat → List (S39) → Int → Int → Int → Int → Int → Bool → Int → Int → Int → Int → Option (Bool)
 | 0, _, _, _, _, _, _, _, _, _, _, _ => none
 | k + 1, x0, x2, x3, x10, x11, x12, x46, x389000, x389001, x396000, x396001 => if x46 = true then (if x10 = 2 then (if x12 = x10 then ((comfitlaw06_awake.f k).bind fun t403 => (some t403)) else (none)) else (none)) else (if x10 = 0 then ((comfitlaw06_Of.f k x0).bind fun t404 => ((tags_CheckCircle.f k t404 x389000 x389001 x396000 x396001).bind fun bt407 => (if bt407.1 = true then (if bt407.2 = 0 then (if x12 = 4 then (if x396000 < 0 then (comfitlaw06_TagsCircles.j1 k x0 x2 x3 x10 x11 x12 true x389000 x389001 x396000 x396001) else (if x396000 ≥ x396001 then (comfitlaw06_TagsCircles.j1 k x0 x2 x3 x10 x11 x12 true x389000 x389001 x396000 x396001) else (comfitlaw06_TagsCircles.j1 k x0 x2 x3 x10 x11 x12 (decide (x396001 > 200)) x389000 x389001 x396000 x396001))) else (comfitlaw06_TagsCircles.j1 k x0 x2 x3 x10 x11 x12 true x389000 x389001 x396000 x396001)) else (comfitlaw06_TagsCircles.j1 k x0 x2 x3 x10 x11 x12 true x389000 x389001 x396000 x396001)) else (comfitlaw06_TagsCircles.j1 k x0 x2 x3 x10 x11 x12 true x389000 x389001 x396000 x396001)))) else (if x10 = 4 then (comfitlaw06_TagsCircles.j2 k x0 x2 x3 x10 x11 x12 x389000 x389001 x396000 x396001) else (none)))
def comfitlaw06_TagsCircles.j2 : Nat → List (S39) → Int → Int → Int → Int → Int → Int → Int → Int → Int → Option (Bool)
 | 0, _, _, _, _, _, _, _, _, _, _ => none
 | k + 1, x0, x2, x3, x10, x11, x12, x389000, x389001, x396000, x396001 => if x12 = 0 then (if x11 < 0 then (comfitlaw06_TagsCircles.j3 k x0 x2 x3 x10 x12 true x389000 x389001 x396000 x396001) else (if x11 > 1000 then (comfitlaw06_TagsCircles.j3 k x0 x2 x3 x10 x12 true x389000 x389001 x396000 x396001) else (if x11 ≤ 200 then (if x10 = 4 then (comfitlaw06_TagsCircles.j3 k x0 x2 x3 x10 x12 false x389000 x389001 x396000 x396001) else (comfitlaw06_TagsCircles.j3 k x0 x2 x3 x10 x12 true x389000 x389001 x396000 x396001)) else (comfitlaw06_TagsCircles.j3 k x0 x2 x3 x10 x12 false x389000 x389001 x396000 x396001)))) else (comfitlaw06_TagsCircles.j3 k x0 x2 x3 x10 x12 (x12 != 4) x389000 x389001 x396000 x396001)
def comfitlaw06_TagsCircles.j3 : Nat → List (S39) → Int → Int → Int → Int → Bool → Int → Int → Int → Int → Option (Bool)
 | 0, _, _, _, _, _, _, _, _, _, _ => none
 | k + 1, x0, x2, x3, x10, x12, x121, x389000, x389001, x396000, x396001 => if x121 = true then (none) else (if (wrap64 (Int.tmod (IntKind.u64.wrap (x2)) 201)) ≥ (wrap64 (Int.tmod (IntKind.u64.wrap (x3)) 201)) then ((comfitlaw06_awake.f k).bind fun t409 => (some t409)) else ((comfitlaw06_Of.f k x0).bind fun t410 => ((tags_Go.f k t410 x389000 x389001 (wrap64 (Int.tmod (IntKind.u64.wrap (x2)) 201))).bind fun bt413 => ((comfitlaw06_Of.f k x0).bind fun t419 => ((tags_Go.f k t419 x389000 x389001 (wrap64 (Int.tmod (IntKind.u64.wrap (x3)) 201))).bind fun bt422 => (if bt413.2.2.2.2 = 0 then (comfitlaw06_TagsCircles.j4 k x0 (wrap64 (Int.tmod (IntKind.u64.wrap (x2)) 201)) (wrap64 (Int.tmod (IntKind.u64.wrap (x3)) 201)) x10 x12 bt413.1 bt413.2.2.2.1 bt422.1 bt422.2.2.2.1 (bt422.2.2.2.2 != 0) x389000 x389001 x396000 x396001 bt413.2.1 bt413.2.2.1 bt422.2.1 bt422.2.2.1) else (comfitlaw06_TagsCircles.j4 k x0 (wrap64 (Int.tmod (IntKind.u64.wrap (x2)) 201)) (wrap64 (Int.tmod (IntKind.u64.wrap (x3)) 201)) x10 x12 bt413.1 bt413.2.2.2.1 bt422.1 bt422.2.2.2.1 true x389000 x389001 x396000 x396001 bt413.2.1 bt413.2.2.1 bt422.2.1 bt422.2.2.1)))))))
def comfitlaw06_TagsCircles.j4 : Nat → List (S39) → Int → Int → Int → Int → Int → Int → Int → Int → Bool → Int → Int → Int → Int → Int → Int → Int → Int → Option (Bool)
 | 0, _, _, _, _, _, _, _, _, _, _, _, _, _, _, _, _, _, _ => none
 | k + 1, x0, x2, x3, x10, x12, x15, x17, x19, x21, x159, x389000, x389001, x396000, x396001, x419000, x419001, x428000, x428001 => if x159 = true then (none) else ((comfitlaw06_Of.f k x0).bind fun t428 => ((tags_CheckCircle.f k t428 x389000 x389001 x2 x3).bind fun bt431 => (if bt431.2 = 0 then (if x21 < x3 then (if bt431.1 = true then (comfitlaw06_TagsCircles.j5 k x2 x3 x10 x15 x17 x19 x21 bt431.1 true x396000 x396001 x419000 x419001 x428000 x428001) else (comfitlaw06_TagsCircles.j5 k x2 x3 x10 x15 x17 x19 x21 bt431.1 false x396000 x396001 x419000 x419001 x428000 x428001)) else (if bt431.1 = true then (if x15 = x19 then (if x428000 < x419000 then (comfitlaw06_TagsCircles.j5 k x2 x3 x10 x15 x17 x19 x21 bt431.1 true x396000 x396001 x419000 x419001 x428000 x428001) else (if x428001 < x419001 then (comfitlaw06_TagsCircles.j5 k x2 x3 x10 x15 x17 x19 x21 bt431.1 true x396000 x396001 x419000 x419001 x428000 x428001) else (comfitlaw06_TagsCircles.j5 k x2 x3 x10 x15 x17 x19 x21 bt431.1 (x12 != 4) x396000 x396001 x419000 x419001 x428000 x428001))) else (comfitlaw06_TagsCircles.j5 k x2 x3 x10 x15 x17 x19 x21 bt431.1 true x396000 x396001 x419000 x419001 x428000 x428001)) else (comfitlaw06_TagsCircles.j5 k x2 x3 x10 x15 x17 x19 x21 bt431.1 false x396000 x396001 x419000 x419001 x428000 x428001))) else (comfitlaw06_TagsCircles.j5 k x2 x3 x10 x15 x17 x19 x21 bt431.1 true x396000 x396001 x419000 x419001 x428000 x428001))))
def comfitlaw06_TagsCircles.j5 : Nat → Int → Int → Int → Int → Int → Int → Int → Bool → Bool → Int → Int → Int → Int → Int → Int → Option (Bool)
 | 0, _, _, _, _, _, _, _, _, _, _, _, _, _, _, _ => none
 | k + 1, x2, x3, x10, x15, x17, x19, x21, x23, x205, x396000, x396001, x419000, x419001, x428000, x428001 => if x205 = true then (none) else (if x17 = x2 then (if x21 = x3 then (if x15 = x19 then (comfitlaw06_TagsCircles.j6 k x3 x10 x23 (x419000 == x428000 && (x419001 == x428001)) x396000 x396001) else (comfitlaw06_TagsCircles.j6 k x3 x10 x23 false x396000 x396001)) else (comfitlaw06_TagsCircles.j6 k x3 x10 x23 false x396000 x396001)) else (comfitlaw06_TagsCircles.j6 k x3 x10 x23 false x396000 x396001))
def comfitlaw06_TagsCircles.j6 : Nat → Int → Int → Bool → Bool → Int → Int → Option (Bool)
 | 0, _, _, _, _, _, _ => none
 | k + 1, x3, x10, x23, x223, x396000, x396001 => if x223 = true then (if x23 = true then (if x10 = 0 then (if x396001 ≤ x3 then ((comfitlaw06_awake.f k).bind fun t433 => (some t433)) else (none)) else (none)) else (none)) else ((comfitlaw06_awake.f k).bind fun t434 => (some t434))
def comfitlaw06_TagsCircles.j1 : Nat → List (S39) → Int → Int → Int → Int → Int → Bool → Int → Int → Int → Int → Option (Bool)
 | 0, _, _, _, _, _, _, _, _, _, _, _ => none
 | k + 1, x0, x2, x3, x10, x11, x12, x93, x389000, x389001, x396000, x396001 => if x93 = true then (none) else (comfitlaw06_TagsCircles.j2 k x0 x2 x3 x10 x11 x12 x389000 x389001 x396000 x396001)
end
def comfitlaw06_TagsCircles.f (k : Nat) (l0 : List (S39)) (a1_0 : Int) (a1_1 : Int) (a2 : Int) (a3 : Int) : Option (Bool) := (comfitlaw06_Of.f k l0).bind fun t389 => ((tags_Circle.f k t389 a1_0 a1_1).bind fun bt392 => ((comfitlaw06_Of.f k l0).bind fun t396 => ((tags_Ends.f k t396 a1_0 a1_1).bind fun bt399 => ((comfitref06_Machine.f k l0).bind fun t401 => (if t401 = true then ((comfitref06_Jars.f a1_0 a1_1).bind fun t402 => (comfitlaw06_TagsCircles.j0 k l0 a2 a3 bt392.2.2 bt399.1 bt399.2 (!t402) a1_0 a1_1 bt392.1 bt392.2.1)) else (comfitlaw06_TagsCircles.j0 k l0 a2 a3 bt392.2.2 bt399.1 bt399.2 true a1_0 a1_1 bt392.1 bt392.2.1))))))
def comfitlaw06_TagsCircles.T1 : Bool × List (List Nat × List Nat) := (true, [([], []), ([0], [0]), ([], []), ([1, 2, 1], [1, 2]), ([3], [3]), ([4], [4]), ([4], [4]), ([], []), ([7, 5, 3, 0, 1, 2, 3, 4, 5, 7], [5, 7]), ([6, 8, 0, 1, 2, 3, 4, 5, 6, 7, 8], [6])])
def comfitlaw06_TagsCircles.B1 : List Nat := [0, 1, 0, 7, 15, 31, 31, 0, 191, 511]
theorem comfitlaw06_TagsCircles.tab1 : rtab .any (opsOf Try.f6 1) = comfitlaw06_TagsCircles.T1 := by kernel_rfl
theorem comfitlaw06_TagsCircles.bits1 : waitsOk comfitlaw06_TagsCircles.T1.2 comfitlaw06_TagsCircles.B1 = true := by kernel_rfl
def comfitlaw06_TagsCircles.T2 : Bool × List (List Nat × List Nat) := (true, [([], []), ([0], [0]), ([], []), ([1, 2, 1], [1, 2]), ([3], [3]), ([4], [4]), ([4], [4]), ([5, 3, 0, 1, 2, 3, 4, 5], [5]), ([6, 7, 0, 1, 2, 3, 4, 5, 6, 7], [6])])
def comfitlaw06_TagsCircles.B2 : List Nat := [0, 1, 0, 7, 15, 31, 31, 63, 255]
theorem comfitlaw06_TagsCircles.tab2 : rtab .any (opsOf Try.f6 2) = comfitlaw06_TagsCircles.T2 := by kernel_rfl
theorem comfitlaw06_TagsCircles.bits2 : waitsOk comfitlaw06_TagsCircles.T2.2 comfitlaw06_TagsCircles.B2 = true := by kernel_rfl
def comfitlaw06_TagsCircles.T6 : Bool × List (List Nat × List Nat) := (true, [([], []), ([0], [0]), ([], []), ([], []), ([1, 2, 3, 1], [1, 2, 3]), ([4], [4]), ([5], [5]), ([5], [5]), ([6, 4, 0, 1, 2, 3, 4, 5, 6], [6]), ([7, 8, 0, 1, 2, 3, 4, 5, 6, 7, 8], [7])])
def comfitlaw06_TagsCircles.B6 : List Nat := [0, 1, 0, 0, 15, 31, 63, 63, 127, 511]
theorem comfitlaw06_TagsCircles.tab6 : rtab .any (opsOf Try.f6 6) = comfitlaw06_TagsCircles.T6 := by kernel_rfl
theorem comfitlaw06_TagsCircles.bits6 : waitsOk comfitlaw06_TagsCircles.T6.2 comfitlaw06_TagsCircles.B6 = true := by kernel_rfl
def comfitlaw06_TagsCircles.T16 : Bool × List (List Nat × List Nat) := (true, [([], []), ([0], [0]), ([], []), ([], []), ([1, 2, 3, 1], [1, 2, 3]), ([4], [4]), ([5], [5]), ([5], [5]), ([5], [5]), ([5], [5]), ([], []), ([6, 4, 0, 1, 2, 3, 4, 5, 6, 10], [6]), ([10, 7, 11, 0, 1, 2, 3, 4, 5, 6, 7, 10, 11], [7, 10]), ([8, 12, 0, 1, 2, 3, 4, 5, 6, 7, 8, 10, 11, 12], [8]), ([9, 13, 0, 1, 2, 3, 4, 5, 6, 7, 8, 9, 10, 11, 12, 13], [9])])
def comfitlaw06_TagsCircles.B16 : List Nat := [0, 1, 0, 0, 15, 31, 63, 63, 63, 63, 0, 1151, 3327, 7679, 16383]
theorem comfitlaw06_TagsCircles.tab16 : rtab .any (opsOf Try.f6 16) = comfitlaw06_TagsCircles.T16 := by kernel_rfl
theorem comfitlaw06_TagsCircles.bits16 : waitsOk comfitlaw06_TagsCircles.T16.2 comfitlaw06_TagsCircles.B16 = true := by kernel_rfl
def comfitlaw06_TagsCircles.T17 : Bool × List (List Nat × List Nat) := (true, [([], []), ([0], [0]), ([], []), ([], []), ([1, 2, 3, 1], [1, 2, 3]), ([4], [4]), ([5], [5]), ([5], [5]), ([5], [5]), ([5], [5]), ([], []), ([6, 4, 0, 1, 2, 3, 4, 5, 6, 10], [6]), ([10, 7, 11, 0, 1, 2, 3, 4, 5, 6, 7, 10, 11], [7, 10]), ([8, 12, 0, 1, 2, 3, 4, 5, 6, 7, 8, 10, 11, 12], [8]), ([9, 13, 0, 1, 2, 3, 4, 5, 6, 7, 8, 9, 10, 11, 12, 13], [9])])
def comfitlaw06_TagsCircles.B17 : List Nat := [0, 1, 0, 0, 15, 31, 63, 63, 63, 63, 0, 1151, 3327, 7679, 16383]
theorem comfitlaw06_TagsCircles.tab17 : rtab .any (opsOf Try.f6 17) = comfitlaw06_TagsCircles.T17 := by kernel_rfl
theorem comfitlaw06_TagsCircles.bits17 : waitsOk comfitlaw06_TagsCircles.T17.2 comfitlaw06_TagsCircles.B17 = true := by kernel_rfl
def comfitlaw06_TagsCircles.T20 : Bool × List (List Nat × List Nat) := (true, [([], []), ([0], [0]), ([], []), ([], []), ([], []), ([3, 4], [3, 4]), ([1, 2, 5, 1], [1, 2, 5]), ([6], [6]), ([7], [7]), ([7], [7]), ([8, 6, 0, 1, 2, 3, 4, 5, 6, 7, 8], [8]), ([9, 10, 0, 1, 2, 3, 4, 5, 6, 7, 8, 9, 10], [9])])
def comfitlaw06_TagsCircles.B20 : List Nat := [0, 1, 0, 0, 0, 24, 63, 127, 255, 255, 511, 2047]
theorem comfitlaw06_TagsCircles.tab20 : rtab .any (opsOf Try.f6 20) = comfitlaw06_TagsCircles.T20 := by kernel_rfl
theorem comfitlaw06_TagsCircles.bits20 : waitsOk comfitlaw06_TagsCircles.T20.2 comfitlaw06_TagsCircles.B20 = true := by kernel_rfl
set_option maxHeartbeats 8000000 in
set_option maxRecDepth 100000 in
theorem comfitlaw06_TagsCircles.calls (k : Nat) (A0 : Option Addr) (c0 : Nat) (l0 : List (S39)) (a1_0 : Int) (a1_1 : Int) (a2 : Int) (a3 : Int) (r : Bool) (w : World) (hr0 : Kd.C k39 w A0 l0.length l0) (hc0 : l0.length ≤ c0) (h : comfitlaw06_TagsCircles.f k l0 a1_0 a1_1 a2 a3 = some r) :
  Calls Try.prog 6 #[.slice A0 l0.length c0, .agg #[.int .i64 a1_0, .int .i64 a1_1], .int .i64 a2, .int .i64 a3] w fun e w' => e = .returned (.bool r) ∧ Below w.heap.size w w' := by
 have hu23 := Try.underlying23
 have HR0 := Aside0.mk hr0
 have HC0 := Aside0.mk hc0
 clear hr0 hc0
 have HB := Aside0.mk (Below.refl w.heap.size w)
 have H : ((comfitlaw06_Of.f k l0).bind fun t389 => ((tags_Circle.f k t389 a1_0 a1_1).bind fun bt392 => ((comfitlaw06_Of.f k l0).bind fun t396 => ((tags_Ends.f k t396 a1_0 a1_1).bind fun bt399 => ((comfitref06_Machine.f k l0).bind fun t401 => (if t401 = true then ((comfitref06_Jars.f a1_0 a1_1).bind fun t402 => (comfitlaw06_TagsCircles.j0 k l0 a2 a3 bt392.2.2 bt399.1 bt399.2 (!t402) a1_0 a1_1 bt392.1 bt392.2.1)) else (comfitlaw06_TagsCircles.j0 k l0 a2 a3 bt392.2.2 bt399.1 bt399.2 true a1_0 a1_1 bt392.1 bt392.2.1))))))) = some r := h
 clear h
 replace H := Option.bind_eq_some_iff.mp H
 obtain ⟨t389, A50, H⟩ := H
 replace H : ((tags_Circle.f k t389 a1_0 a1_1).bind fun bt392 => ((comfitlaw06_Of.f k l0).bind fun t396 => ((tags_Ends.f k t396 a1_0 a1_1).bind fun bt399 => ((comfitref06_Machine.f k l0).bind fun t401 => (if t401 = true then ((comfitref06_Jars.f a1_0 a1_1).bind fun t402 => (comfitlaw06_TagsCircles.j0 k l0 a2 a3 bt392.2.2 bt399.1 bt399.2 (!t402) a1_0 a1_1 bt392.1 bt392.2.1)) else (comfitlaw06_TagsCircles.j0 k l0 a2 a3 bt392.2.2 bt399.1 bt399.2 true a1_0 a1_1 bt392.1 bt392.2.1)))))) = some r := H
 have A5 := Aside0.mk A50
 clear A50
 replace H := Option.bind_eq_some_iff.mp H
 obtain ⟨⟨t392, t393, t394⟩, A60, H⟩ := H
 replace H : ((comfitlaw06_Of.f k l0).bind fun t396 => ((tags_Ends.f k t396 a1_0 a1_1).bind fun bt399 => ((comfitref06_Machine.f k l0).bind fun t401 => (if t401 = true then ((comfitref06_Jars.f a1_0 a1_1).bind fun t402 => (comfitlaw06_TagsCircles.j0 k l0 a2 a3 t394 bt399.1 bt399.2 (!t402) a1_0 a1_1 t392 t393)) else (comfitlaw06_TagsCircles.j0 k l0 a2 a3 t394 bt399.1 bt399.2 true a1_0 a1_1 t392 t393))))) = some r := H
 have A6 := Aside0.mk A60
 clear A60
 replace H := Option.bind_eq_some_iff.mp H
 obtain ⟨t396, A70, H⟩ := H
 replace H : ((tags_Ends.f k t396 a1_0 a1_1).bind fun bt399 => ((comfitref06_Machine.f k l0).bind fun t401 => (if t401 = true then ((comfitref06_Jars.f a1_0 a1_1).bind fun t402 => (comfitlaw06_TagsCircles.j0 k l0 a2 a3 t394 bt399.1 bt399.2 (!t402) a1_0 a1_1 t392 t393)) else (comfitlaw06_TagsCircles.j0 k l0 a2 a3 t394 bt399.1 bt399.2 true a1_0 a1_1 t392 t393)))) = some r := H
 have A7 := Aside0.mk A70
 clear A70
 replace H := Option.bind_eq_some_iff.mp H
 obtain ⟨⟨t399, t400⟩, A80, H⟩ := H
 replace H : ((comfitref06_Machine.f k l0).bind fun t401 => (if t401 = true then ((comfitref06_Jars.f a1_0 a1_1).bind fun t402 => (comfitlaw06_TagsCircles.j0 k l0 a2 a3 t394 t399 t400 (!t402) a1_0 a1_1 t392 t393)) else (comfitlaw06_TagsCircles.j0 k l0 a2 a3 t394 t399 t400 true a1_0 a1_1 t392 t393))) = some r := H
 have A8 := Aside0.mk A80
 clear A80
 have HC9 := Aside0.mk H
 clear H
 go_enter Try.func6, Try.ntmps6
 try go_wp2_with (first | ((with_reducible refine gate_dst (N := 5) rfl ?_); refine box_event ?hg (N := 5) ?hd (cs := #[.int .i64 a1_0, .int .i64 a1_1]) (t := 23) ?hr ?_; (case hd => rfl); (case hg => rfl); (case hr => first | (go_simp; done) | (go_simp; rfl)); intro gb388 hg w10 hbox hb; have n0_ := Aside0.mk (below_step (hb_ HB.out) hb); have n1_ := Aside0.mk (hbox); have n2_ := Aside0.mk ((by rw [hg]; exact (below_size (hb_ HB.out)) : w.heap.size ≤ gb388)); have n3_ := Aside0.mk ((by rw [hg]; exact (below_size (hb_ HB.out)) : w.heap.size ≤ gb388)); clear HB; have HB := n0_; have BK388 := n1_; have GW388 := n2_; have GE388 := n3_; clear n0_ n1_ n2_ n3_; clear hb hbox hg))
 have n0_ := Aside0.mk (blk_drew BK388.out)
 have n1_ := Aside0.mk (below_drew1 HB.out)
 clear BK388
 clear HB
 have BK388 := n0_
 have HB := n1_
 clear n0_ n1_
 refine start_ (n := 10) (S := fun w' => w'.cell? ⟨gb388, 0, none⟩ = some (.int .i64 a1_0) ∧ w'.cell? ⟨gb388, 1, none⟩ = some (.int .i64 a1_1)) (ds := []) #[false, false, false, false, false, false, false, false, false, false] (by kernel_rfl) rfl rfl ⟨(blk_cell BK388.out 0).trans rfl, (blk_cell BK388.out 1).trans rfl⟩ (fun hHeld => ?_); refine with_tabW comfitlaw06_TagsCircles.tab1 comfitlaw06_TagsCircles.bits1 (fun HT_ HW_ => ?_)
 generalize w10.drew = w11 at BK388 HB hHeld ⊢
 refine pure_ (i := 0) (N := some 26) (v := ?_) (a' := ?_) #[true, false, false, false, false, false, false, false, false, false] rfl rfl (any_of HT_.out (by kernel_rfl)) (fun _ _ _ h => h) (Or.inl ⟨by rfl, ?_⟩) ?_ ?_
 rotate_left
 ·intro w'
  go_simp
  with_reducible rfl
 rotate_left
 ·simp only [Act.put, List.setIfInBounds_toArray, List.set_cons_zero, List.set_cons_succ, i64_w, i32_w]
  rfl
 refine take_ (i := 2) (N := some 28) (v := ?_) (a' := ?_) #[true, false, true, false, false, false, false, false, false, false] rfl rfl (take_ofW HT_.out HW_.out (by kernel_rfl)) (fun _ _ _ h => h) (Or.inl ⟨by rfl, ?_⟩) hHeld ?_ ?_
 rotate_left
 ·rintro w' ⟨s0, s1⟩
  go_simp
  with_reducible rfl
 rotate_left
 ·simp only [Act.put, List.setIfInBounds_toArray, List.set_cons_zero, List.set_cons_succ, i64_w, i32_w]
  rfl
 refine join_ (σ := Value × Nat) 2 #[true, true, true, true, true, true, true, true, false, false] (fun s_ => [(27, s_.1), (29, .tuple #[.agg #[.int .i64 t392, .int .i64 t393], .int .i64 t394]), (9, .pointer (some ⟨s_.2, 0, none⟩)), (25, .tuple #[.agg #[.int .i64 t392, .int .i64 t393], .int .i64 t394]), (30, .agg #[.int .i64 t392, .int .i64 t393]), (31, .int .i64 t394)]) (fun s_ w' => (w'.cell? ⟨gb388, 0, none⟩ = some (.int .i64 a1_0) ∧ w'.cell? ⟨gb388, 1, none⟩ = some (.int .i64 a1_1)) ∧ (Kd.R k57 57 w' w.heap.size (fun _ => True) s_.1 t389) ∧ (w'.heap[gb388]? = some (.cells #[.int .i64 a1_0, .int .i64 a1_1] 23 (0, 0))) ∧ (w'.heap[s_.2]? = some (.cells #[.int .i64 0, .int .i64 0] 23 (0, 0))) ∧ (w.heap.size ≤ s_.2) ∧ (w.heap.size ≤ s_.2) ∧ (gb388 ≠ s_.2) ∧ (s_.2 ≠ gb388) ∧ (Below w.heap.size w w')) ?_ ?_
 rotate_left
 ·intro hCont
  refine two_ (i := 1) (j := 7) (Ni := some 27) (Nj := some 9) #[true, true, true, false, false, false, false, false, false, false] #[true, false, true, false, false, false, false, true, false, false] rfl rfl rfl rfl (two_of HT_.out (by kernel_rfl)) (by decide) (by decide) (fun K hK => ?_) (fun K hK => ?_)
  ·skip
   refine goes_ Try.func11 (by kernel_rfl) rfl #[.slice A0 l0.length c0] (by rfl) rfl rfl al_ ?_
   with_reducible refine (comfitlaw06_Of.calls k _ _ l0 t389 _ ?side1 ?side2 A5.out).mono ?_
   (case side1 => exact kc_ (Kd.C_below HR0.out HB.out))
   (case side2 => exact HC0.out)
   rintro e w12 ⟨v390, rfl, ho0, hb⟩
   refine ⟨_, rfl, ?_⟩
   have n0_ := Aside0.mk (Kd.R_lower ho0 (below_size (hb_ HB.out)))
   have n1_ := Aside0.mk (bkb_ BK388.out hb)
   have n2_ := Aside0.mk (below_step (hb_ HB.out) hb)
   clear BK388
   clear HB
   have HO391 := n0_
   have BK388 := n1_
   have HB := n2_
   clear n0_ n1_ n2_
   (try clear hb)
   (try clear hb2)
   (try clear hk)
   (try clear hi)
   (try clear ho0)
   obtain ⟨Ao13, co13, eo13⟩ := Kd.R_slice HO391.out
   (first | subst eo13 | (injection eo13 with f1_ f2_ f3_; have f4_ := f1_.symm; have f5_ := f3_.symm; clear f1_ f2_ f3_; subst f4_; subst f5_))
   refine hK.out _ _ ⟨(blk_cell BK388.out 0).trans rfl, (blk_cell BK388.out 1).trans rfl⟩ (fun hHeld => ?_)
   clear hK K
   refine norm_ (a' := ?_) ?_ ?_
   rotate_left
   ·show Act.put _ (some 27) _ = _
    simp only [Act.put, List.setIfInBounds_toArray, List.set_cons_zero, List.set_cons_succ, i64_w, i32_w]
    rfl
   refine two_ (i := 3) (j := 7) (Ni := some 29) (Nj := some 9) #[true, true, true, true, false, false, false, false, false, false] #[true, true, true, false, false, false, false, true, false, false] rfl rfl rfl rfl (two_of HT_.out (by kernel_rfl)) (by decide) (by decide) (fun K hK => ?_) (fun K hK => ?_)
   ·skip
    refine goes_ Try.func17 (by kernel_rfl) rfl #[.slice Ao13 t389.length co13, .agg #[.int .i64 a1_0, .int .i64 a1_1]] (by rfl) rfl rfl al_ ?_
    with_reducible refine (tags_Circle.calls k _ _ t389 a1_0 a1_1 t392 t393 t394 _ ?side1 ?side2 A6.out).mono ?_
    (case side1 => exact kc_ (Kd.R_reads' HO391.out).2.2)
    (case side2 => exact (Kd.R_reads' HO391.out).2.1)
    rintro e w14 ⟨rfl, hb⟩
    refine ⟨_, rfl, ?_⟩
    have n0_ := Aside0.mk (Kd.R_below (kr_ (HO391.out)) hb)
    have n1_ := Aside0.mk (bkb_ BK388.out hb)
    have n2_ := Aside0.mk (below_step (hb_ HB.out) hb)
    clear HO391
    clear BK388
    clear HB
    have HO391 := n0_
    have BK388 := n1_
    have HB := n2_
    clear n0_ n1_ n2_
    (try clear hb)
    (try clear hb2)
    (try clear hk)
    (try clear hi)
    refine hK.out _ _ ⟨(blk_cell BK388.out 0).trans rfl, (blk_cell BK388.out 1).trans rfl⟩ (fun hHeld => ?_)
    clear hK K
    refine norm_ (a' := ?_) ?_ ?_
    rotate_left
    ·show Act.put _ (some 29) _ = _
     simp only [Act.put, List.setIfInBounds_toArray, List.set_cons_zero, List.set_cons_succ, i64_w, i32_w]
     rfl
    refine pure_ (i := 4) (N := some 25) (v := ?_) (a' := ?_) #[true, true, true, true, true, false, false, false, false, false] rfl rfl (any_of HT_.out (by kernel_rfl)) (fun _ _ _ h => h) (Or.inl ⟨by rfl, ?_⟩) ?_ ?_
    rotate_left
    ·intro w'
     go_simp
     with_reducible rfl
    rotate_left
    ·simp only [Act.put, List.setIfInBounds_toArray, List.set_cons_zero, List.set_cons_succ, i64_w, i32_w]
     rfl
    refine pure_ (i := 5) (N := some 30) (v := ?_) (a' := ?_) #[true, true, true, true, true, true, false, false, false, false] rfl rfl (any_of HT_.out (by kernel_rfl)) (fun _ _ _ h => h) (Or.inl ⟨by rfl, ?_⟩) ?_ ?_
    rotate_left
    ·intro w'
     go_simp
     with_reducible rfl
    rotate_left
    ·simp only [Act.put, List.setIfInBounds_toArray, List.set_cons_zero, List.set_cons_succ, i64_w, i32_w]
     rfl
    refine pure_ (i := 6) (N := some 31) (v := ?_) (a' := ?_) #[true, true, true, true, true, true, true, false, false, false] rfl rfl (any_of HT_.out (by kernel_rfl)) (fun _ _ _ h => h) (Or.inl ⟨by rfl, ?_⟩) ?_ ?_
    rotate_left
    ·intro w'
     go_simp
     with_reducible rfl
    rotate_left
    ·simp only [Act.put, List.setIfInBounds_toArray, List.set_cons_zero, List.set_cons_succ, i64_w, i32_w]
     rfl
    refine one_ (i := 7) (N := some 9) #[true, true, true, true, true, true, true, true, false, false] rfl rfl (one_of HT_.out (by kernel_rfl)) (by decide) (fun K hK => ?_)
    refine box_step ?hg (N := 9) ?hd (cs := #[.int .i64 0, .int .i64 0]) (t := 23) ?hr ?_; (case hd => rfl); (case hg => rfl); (case hr => first | (go_simp; done) | (go_simp; rfl))
    intro gb395 hg w15 hbox hb
    have n0_ := Aside0.mk (Kd.R_below (kr_ (HO391.out)) hb)
    have n1_ := Aside0.mk (bkb_ BK388.out hb)
    have n2_ := Aside0.mk (below_step (hb_ HB.out) hb)
    have n3_ := Aside0.mk (hbox)
    have n4_ := Aside0.mk ((by rw [hg]; exact (below_size (hb_ HB.out)) : w.heap.size ≤ gb395))
    have n5_ := Aside0.mk ((by rw [hg]; exact (below_size (hb_ HB.out)) : w.heap.size ≤ gb395))
    have n6_ := Aside0.mk ((by rw [hg]; exact Nat.ne_of_lt (bkl_ BK388.out) : gb388 ≠ gb395))
    have n7_ := Aside0.mk ((by rw [hg]; exact Nat.ne_of_gt (bkl_ BK388.out) : gb395 ≠ gb388))
    clear HO391
    clear BK388
    clear HB
    have HO391 := n0_
    have BK388 := n1_
    have HB := n2_
    have BK395 := n3_
    have GW395 := n4_
    have GE395 := n5_
    have NB388_395 := n6_
    have NB395_388 := n7_
    clear n0_ n1_ n2_ n3_ n4_ n5_ n6_ n7_
    clear hb hbox hg
    refine hK.out _ _ ⟨(blk_cell BK388.out 0).trans rfl, (blk_cell BK388.out 1).trans rfl⟩ (fun hHeld => ?_)
    clear hK K
    refine norm_ (a' := ?_) ?_ ?_
    rotate_left
    ·show Act.put _ (some 9) _ = _
     simp only [Act.put, List.setIfInBounds_toArray, List.set_cons_zero, List.set_cons_succ, i64_w, i32_w]
     rfl
    exact norm_ (by simp only [putAll, Act.put, List.setIfInBounds_toArray, List.set_cons_zero, List.set_cons_succ]) (hCont (.slice Ao13 t389.length co13, gb395) _ ⟨hHeld, (kr_ (HO391.out)), (bk_ BK388.out), (bk_ BK395.out), GW395.out, GE395.out, NB388_395.out, NB395_388.out, (hb_ HB.out)⟩)
   ·skip
    refine box_step ?hg (N := 9) ?hd (cs := #[.int .i64 0, .int .i64 0]) (t := 23) ?hr ?_; (case hd => rfl); (case hg => rfl); (case hr => first | (go_simp; done) | (go_simp; rfl))
    intro gb395 hg w13 hbox hb
    have n0_ := Aside0.mk (Kd.R_below (kr_ (HO391.out)) hb)
    have n1_ := Aside0.mk (bkb_ BK388.out hb)
    have n2_ := Aside0.mk (below_step (hb_ HB.out) hb)
    have n3_ := Aside0.mk (hbox)
    have n4_ := Aside0.mk ((by rw [hg]; exact (below_size (hb_ HB.out)) : w.heap.size ≤ gb395))
    have n5_ := Aside0.mk ((by rw [hg]; exact (below_size (hb_ HB.out)) : w.heap.size ≤ gb395))
    have n6_ := Aside0.mk ((by rw [hg]; exact Nat.ne_of_lt (bkl_ BK388.out) : gb388 ≠ gb395))
    have n7_ := Aside0.mk ((by rw [hg]; exact Nat.ne_of_gt (bkl_ BK388.out) : gb395 ≠ gb388))
    clear HO391
    clear BK388
    clear HB
    have HO391 := n0_
    have BK388 := n1_
    have HB := n2_
    have BK395 := n3_
    have GW395 := n4_
    have GE395 := n5_
    have NB388_395 := n6_
    have NB395_388 := n7_
    clear n0_ n1_ n2_ n3_ n4_ n5_ n6_ n7_
    clear hb hbox hg
    obtain ⟨Ao14, co14, eo14⟩ := Kd.R_slice HO391.out
    (first | subst eo14 | (injection eo14 with f1_ f2_ f3_; have f4_ := f1_.symm; have f5_ := f3_.symm; clear f1_ f2_ f3_; subst f4_; subst f5_))
    refine hK.out _ _ ⟨(blk_cell BK388.out 0).trans rfl, (blk_cell BK388.out 1).trans rfl⟩ (fun hHeld => ?_)
    clear hK K
    refine norm_ (a' := ?_) ?_ ?_
    rotate_left
    ·show Act.put _ (some 9) _ = _
     simp only [Act.put, List.setIfInBounds_toArray, List.set_cons_zero, List.set_cons_succ, i64_w, i32_w]
     rfl
    refine one_ (i := 3) (N := some 29) #[true, true, true, true, false, false, false, true, false, false] rfl rfl (one_of HT_.out (by kernel_rfl)) (by decide) (fun K hK => ?_)
    refine goes_ Try.func17 (by kernel_rfl) rfl #[.slice Ao14 t389.length co14, .agg #[.int .i64 a1_0, .int .i64 a1_1]] (by rfl) rfl rfl al_ ?_
    with_reducible refine (tags_Circle.calls k _ _ t389 a1_0 a1_1 t392 t393 t394 _ ?side1 ?side2 A6.out).mono ?_
    (case side1 => exact kc_ (Kd.R_reads' HO391.out).2.2)
    (case side2 => exact (Kd.R_reads' HO391.out).2.1)
    rintro e w15 ⟨rfl, hb⟩
    refine ⟨_, rfl, ?_⟩
    have n0_ := Aside0.mk (Kd.R_below (kr_ (HO391.out)) hb)
    have n1_ := Aside0.mk (bkb_ BK388.out hb)
    have n2_ := Aside0.mk (bkb_ BK395.out hb)
    have n3_ := Aside0.mk (below_step (hb_ HB.out) hb)
    clear HO391
    clear BK388
    clear BK395
    clear HB
    have HO391 := n0_
    have BK388 := n1_
    have BK395 := n2_
    have HB := n3_
    clear n0_ n1_ n2_ n3_
    (try clear hb)
    (try clear hb2)
    (try clear hk)
    (try clear hi)
    refine hK.out _ _ ⟨(blk_cell BK388.out 0).trans rfl, (blk_cell BK388.out 1).trans rfl⟩ (fun hHeld => ?_)
    clear hK K
    refine norm_ (a' := ?_) ?_ ?_
    rotate_left
    ·show Act.put _ (some 29) _ = _
     simp only [Act.put, List.setIfInBounds_toArray, List.set_cons_zero, List.set_cons_succ, i64_w, i32_w]
     rfl
    refine pure_ (i := 4) (N := some 25) (v := ?_) (a' := ?_) #[true, true, true, true, true, false, false, true, false, false] rfl rfl (any_of HT_.out (by kernel_rfl)) (fun _ _ _ h => h) (Or.inl ⟨by rfl, ?_⟩) ?_ ?_
    rotate_left
    ·intro w'
     go_simp
     with_reducible rfl
    rotate_left
    ·simp only [Act.put, List.setIfInBounds_toArray, List.set_cons_zero, List.set_cons_succ, i64_w, i32_w]
     rfl
    refine pure_ (i := 5) (N := some 30) (v := ?_) (a' := ?_) #[true, true, true, true, true, true, false, true, false, false] rfl rfl (any_of HT_.out (by kernel_rfl)) (fun _ _ _ h => h) (Or.inl ⟨by rfl, ?_⟩) ?_ ?_
    rotate_left
    ·intro w'
     go_simp
     with_reducible rfl
    rotate_left
    ·simp only [Act.put, List.setIfInBounds_toArray, List.set_cons_zero, List.set_cons_succ, i64_w, i32_w]
     rfl
    refine pure_ (i := 6) (N := some 31) (v := ?_) (a' := ?_) #[true, true, true, true, true, true, true, true, false, false] rfl rfl (any_of HT_.out (by kernel_rfl)) (fun _ _ _ h => h) (Or.inl ⟨by rfl, ?_⟩) ?_ ?_
    rotate_left
    ·intro w'
     go_simp
     with_reducible rfl
    rotate_left
    ·simp only [Act.put, List.setIfInBounds_toArray, List.set_cons_zero, List.set_cons_succ, i64_w, i32_w]
     rfl
    exact norm_ (by simp only [putAll, Act.put, List.setIfInBounds_toArray, List.set_cons_zero, List.set_cons_succ]) (hCont (.slice Ao14 t389.length co14, gb395) _ ⟨hHeld, (kr_ (HO391.out)), (bk_ BK388.out), (bk_ BK395.out), GW395.out, GE395.out, NB388_395.out, NB395_388.out, (hb_ HB.out)⟩)
  ·skip
   refine box_step ?hg (N := 9) ?hd (cs := #[.int .i64 0, .int .i64 0]) (t := 23) ?hr ?_; (case hd => rfl); (case hg => rfl); (case hr => first | (go_simp; done) | (go_simp; rfl))
   intro gb395 hg w12 hbox hb
   have n0_ := Aside0.mk (bkb_ BK388.out hb)
   have n1_ := Aside0.mk (below_step (hb_ HB.out) hb)
   have n2_ := Aside0.mk (hbox)
   have n3_ := Aside0.mk ((by rw [hg]; exact (below_size (hb_ HB.out)) : w.heap.size ≤ gb395))
   have n4_ := Aside0.mk ((by rw [hg]; exact (below_size (hb_ HB.out)) : w.heap.size ≤ gb395))
   have n5_ := Aside0.mk ((by rw [hg]; exact Nat.ne_of_lt (bkl_ BK388.out) : gb388 ≠ gb395))
   have n6_ := Aside0.mk ((by rw [hg]; exact Nat.ne_of_gt (bkl_ BK388.out) : gb395 ≠ gb388))
   clear BK388
   clear HB
   have BK388 := n0_
   have HB := n1_
   have BK395 := n2_
   have GW395 := n3_
   have GE395 := n4_
   have NB388_395 := n5_
   have NB395_388 := n6_
   clear n0_ n1_ n2_ n3_ n4_ n5_ n6_
   clear hb hbox hg
   refine hK.out _ _ ⟨(blk_cell BK388.out 0).trans rfl, (blk_cell BK388.out 1).trans rfl⟩ (fun hHeld => ?_)
   clear hK K
   refine norm_ (a' := ?_) ?_ ?_
   rotate_left
   ·show Act.put _ (some 9) _ = _
    simp only [Act.put, List.setIfInBounds_toArray, List.set_cons_zero, List.set_cons_succ, i64_w, i32_w]
    rfl
   refine one_ (i := 1) (N := some 27) #[true, true, true, false, false, false, false, true, false, false] rfl rfl (one_of HT_.out (by kernel_rfl)) (by decide) (fun K hK => ?_)
   refine goes_ Try.func11 (by kernel_rfl) rfl #[.slice A0 l0.length c0] (by rfl) rfl rfl al_ ?_
   with_reducible refine (comfitlaw06_Of.calls k _ _ l0 t389 _ ?side1 ?side2 A5.out).mono ?_
   (case side1 => exact kc_ (Kd.C_below HR0.out HB.out))
   (case side2 => exact HC0.out)
   rintro e w13 ⟨v390, rfl, ho0, hb⟩
   refine ⟨_, rfl, ?_⟩
   have n0_ := Aside0.mk (Kd.R_lower ho0 (below_size (hb_ HB.out)))
   have n1_ := Aside0.mk (bkb_ BK388.out hb)
   have n2_ := Aside0.mk (bkb_ BK395.out hb)
   have n3_ := Aside0.mk (below_step (hb_ HB.out) hb)
   clear BK388
   clear BK395
   clear HB
   have HO391 := n0_
   have BK388 := n1_
   have BK395 := n2_
   have HB := n3_
   clear n0_ n1_ n2_ n3_
   (try clear hb)
   (try clear hb2)
   (try clear hk)
   (try clear hi)
   (try clear ho0)
   obtain ⟨Ao14, co14, eo14⟩ := Kd.R_slice HO391.out
   (first | subst eo14 | (injection eo14 with f1_ f2_ f3_; have f4_ := f1_.symm; have f5_ := f3_.symm; clear f1_ f2_ f3_; subst f4_; subst f5_))
   refine hK.out _ _ ⟨(blk_cell BK388.out 0).trans rfl, (blk_cell BK388.out 1).trans rfl⟩ (fun hHeld => ?_)
   clear hK K
   refine norm_ (a' := ?_) ?_ ?_
   rotate_left
   ·show Act.put _ (some 27) _ = _
    simp only [Act.put, List.setIfInBounds_toArray, List.set_cons_zero, List.set_cons_succ, i64_w, i32_w]
    rfl
   refine one_ (i := 3) (N := some 29) #[true, true, true, true, false, false, false, true, false, false] rfl rfl (one_of HT_.out (by kernel_rfl)) (by decide) (fun K hK => ?_)
   refine goes_ Try.func17 (by kernel_rfl) rfl #[.slice Ao14 t389.length co14, .agg #[.int .i64 a1_0, .int .i64 a1_1]] (by rfl) rfl rfl al_ ?_
   with_reducible refine (tags_Circle.calls k _ _ t389 a1_0 a1_1 t392 t393 t394 _ ?side1 ?side2 A6.out).mono ?_
   (case side1 => exact kc_ (Kd.R_reads' HO391.out).2.2)
   (case side2 => exact (Kd.R_reads' HO391.out).2.1)
   rintro e w15 ⟨rfl, hb⟩
   refine ⟨_, rfl, ?_⟩
   have n0_ := Aside0.mk (Kd.R_below (kr_ (HO391.out)) hb)
   have n1_ := Aside0.mk (bkb_ BK388.out hb)
   have n2_ := Aside0.mk (bkb_ BK395.out hb)
   have n3_ := Aside0.mk (below_step (hb_ HB.out) hb)
   clear HO391
   clear BK388
   clear BK395
   clear HB
   have HO391 := n0_
   have BK388 := n1_
   have BK395 := n2_
   have HB := n3_
   clear n0_ n1_ n2_ n3_
   (try clear hb)
   (try clear hb2)
   (try clear hk)
   (try clear hi)
   refine hK.out _ _ ⟨(blk_cell BK388.out 0).trans rfl, (blk_cell BK388.out 1).trans rfl⟩ (fun hHeld => ?_)
   clear hK K
   refine norm_ (a' := ?_) ?_ ?_
   rotate_left
   ·show Act.put _ (some 29) _ = _
    simp only [Act.put, List.setIfInBounds_toArray, List.set_cons_zero, List.set_cons_succ, i64_w, i32_w]
    rfl
   refine pure_ (i := 4) (N := some 25) (v := ?_) (a' := ?_) #[true, true, true, true, true, false, false, true, false, false] rfl rfl (any_of HT_.out (by kernel_rfl)) (fun _ _ _ h => h) (Or.inl ⟨by rfl, ?_⟩) ?_ ?_
   rotate_left
   ·intro w'
    go_simp
    with_reducible rfl
   rotate_left
   ·simp only [Act.put, List.setIfInBounds_toArray, List.set_cons_zero, List.set_cons_succ, i64_w, i32_w]
    rfl
   refine pure_ (i := 5) (N := some 30) (v := ?_) (a' := ?_) #[true, true, true, true, true, true, false, true, false, false] rfl rfl (any_of HT_.out (by kernel_rfl)) (fun _ _ _ h => h) (Or.inl ⟨by rfl, ?_⟩) ?_ ?_
   rotate_left
   ·intro w'
    go_simp
    with_reducible rfl
   rotate_left
   ·simp only [Act.put, List.setIfInBounds_toArray, List.set_cons_zero, List.set_cons_succ, i64_w, i32_w]
    rfl
   refine pure_ (i := 6) (N := some 31) (v := ?_) (a' := ?_) #[true, true, true, true, true, true, true, true, false, false] rfl rfl (any_of HT_.out (by kernel_rfl)) (fun _ _ _ h => h) (Or.inl ⟨by rfl, ?_⟩) ?_ ?_
   rotate_left
   ·intro w'
    go_simp
    with_reducible rfl
   rotate_left
   ·simp only [Act.put, List.setIfInBounds_toArray, List.set_cons_zero, List.set_cons_succ, i64_w, i32_w]
    rfl
   exact norm_ (by simp only [putAll, Act.put, List.setIfInBounds_toArray, List.set_cons_zero, List.set_cons_succ]) (hCont (.slice Ao14 t389.length co14, gb395) _ ⟨hHeld, (kr_ (HO391.out)), (bk_ BK388.out), (bk_ BK395.out), GW395.out, GE395.out, NB388_395.out, NB395_388.out, (hb_ HB.out)⟩)
 rintro ⟨v390, gb395⟩ w16 ⟨hS_, h0_, h1_, h2_, h3_, h4_, h5_, h6_, h7_⟩
 have n0_ : Aside0 (Kd.R k57 57 w16 w.heap.size (fun _ => True) v390 t389) := ⟨h0_⟩
 have n1_ : Aside0 (w16.heap[gb388]? = some (.cells #[.int .i64 a1_0, .int .i64 a1_1] 23 (0, 0))) := ⟨h1_⟩
 have n2_ : Aside0 (w16.heap[gb395]? = some (.cells #[.int .i64 0, .int .i64 0] 23 (0, 0))) := ⟨h2_⟩
 have n3_ : Aside0 (w.heap.size ≤ gb395) := ⟨h3_⟩
 have n4_ : Aside0 (w.heap.size ≤ gb395) := ⟨h4_⟩
 have n5_ : Aside0 (gb388 ≠ gb395) := ⟨h5_⟩
 have n6_ : Aside0 (gb395 ≠ gb388) := ⟨h6_⟩
 have n7_ : Aside0 (Below w.heap.size w w16) := ⟨h7_⟩
 clear BK388
 clear HB
 clear h0_ h1_ h2_ h3_ h4_ h5_ h6_ h7_
 have HO391 := n0_
 have BK388 := n1_
 have BK395 := n2_
 have GW395 := n3_
 have GE395 := n4_
 have NB388_395 := n5_
 have NB395_388 := n6_
 have HB := n7_
 clear n0_ n1_ n2_ n3_ n4_ n5_ n6_ n7_
 have hHeld : w16.cell? ⟨gb388, 0, none⟩ = some (.int .i64 a1_0) ∧ w16.cell? ⟨gb388, 1, none⟩ = some (.int .i64 a1_1) := hS_
 refine norm_ (a' := ?_) ?_ ?_
 rotate_left
 ·simp only [putAll, Act.put, List.setIfInBounds_toArray, List.set_cons_zero, List.set_cons_succ]
  rfl
 refine one_ (i := 8) (N := none) #[true, true, true, true, true, true, true, true, true, false] rfl rfl (one_of HT_.out (by kernel_rfl)) (by decide) (fun K hK => ?_)
 have hs17 : w16.cell? ⟨gb395, 0, none⟩ = some (.int .i64 0) := (blk_cell BK395.out 0).trans rfl
 have hfs17 := blk_frozen BK395.out 0
 have hns17_0 := NB388_395.out
 have hms17_0 := NB395_388.out
 have hs18 : w16.cell? ⟨gb395, 1, none⟩ = some (.int .i64 0) := (blk_cell BK395.out 1).trans rfl
 have hfs18 := blk_frozen BK395.out 1
 have hns18_0 := NB388_395.out
 have hms18_0 := NB395_388.out
 refine skip_ (w1 := ?_) (by rfl) rfl ?_ ?_
 rotate_left
 ·go_simp
  rfl
 refine hK.out _ _ ⟨((cell_far (p := ⟨gb395, _, none⟩) NB388_395.out _).trans (((cell_far (p := ⟨gb395, _, none⟩) NB388_395.out _).trans (hHeld.1)))), ((cell_far (p := ⟨gb395, _, none⟩) NB388_395.out _).trans (((cell_far (p := ⟨gb395, _, none⟩) NB388_395.out _).trans (hHeld.2))))⟩ (fun hHeld => ?_)
 clear hK K
 refine pure_ (i := 9) (N := some 10) (v := ?_) (a' := ?_) #[true, true, true, true, true, true, true, true, true, true] rfl rfl (any_of HT_.out (by kernel_rfl)) (fun _ _ _ h => h) (Or.inl ⟨by rfl, ?_⟩) ?_ ?_
 rotate_left
 ·intro w'
  go_simp
  with_reducible rfl
 rotate_left
 ·simp only [Act.put, List.setIfInBounds_toArray, List.set_cons_zero, List.set_cons_succ, i64_w, i32_w]
  rfl
 refine done_ (done_of HT_.out (by kernel_rfl)) ?_
 try go_wp2
 have n0_ : Aside0 (Kd.R k57 57 ((w16.setCell ⟨gb395, 0, none⟩ (.int .i64 t392)).setCell ⟨gb395, 1, none⟩ (.int .i64 t393)) w.heap.size (fun _ => True) v390 t389) := ⟨by (with_reducible repeat (first | apply Kd.R_alloc | apply Kd.R_drewN | apply Kd.R_drew)); exact Kd.R_mono (Kd.R_far (p := ⟨gb395, 1, none⟩) (Kd.R_far (p := ⟨gb395, 0, none⟩) (Kd.R_types HO391.out BK395.out (by decide)) (fun _ hk => hk.2) (.int .i64 t392)) (fun _ hk => hk.2) (.int .i64 t393)) (fun _ hk => trivial)⟩
 have n1_ : Aside0 (((w16.setCell ⟨gb395, 0, none⟩ (.int .i64 t392)).setCell ⟨gb395, 1, none⟩ (.int .i64 t393)).heap[gb388]? = some (.cells #[.int .i64 a1_0, .int .i64 a1_1] 23 (0, 0))) := ⟨by (with_reducible repeat (first | refine blk_drewN ?_ _ | refine blk_drew ?_ | refine blk_alloc ?_ _)); refine blk_far ?_ NB388_395.out _; (with_reducible repeat (first | refine blk_drewN ?_ _ | refine blk_drew ?_ | refine blk_alloc ?_ _)); refine blk_far ?_ NB388_395.out _; (with_reducible repeat (first | refine blk_drewN ?_ _ | refine blk_drew ?_ | refine blk_alloc ?_ _)); exact BK388.out⟩
 have n2_ : Aside0 (((w16.setCell ⟨gb395, 0, none⟩ (.int .i64 t392)).setCell ⟨gb395, 1, none⟩ (.int .i64 t393)).heap[gb395]? = some (.cells #[.int .i64 t392, .int .i64 t393] 23 (0, 0))) := ⟨by (with_reducible repeat (first | refine blk_drewN ?_ _ | refine blk_drew ?_ | refine blk_alloc ?_ _)); refine blk_put (cs := #[.int .i64 t392, .int .i64 0]) ?_ 1 _ rfl; (with_reducible repeat (first | refine blk_drewN ?_ _ | refine blk_drew ?_ | refine blk_alloc ?_ _)); refine blk_put (cs := #[.int .i64 0, .int .i64 0]) ?_ 0 _ rfl; (with_reducible repeat (first | refine blk_drewN ?_ _ | refine blk_drew ?_ | refine blk_alloc ?_ _)); exact BK395.out⟩
 have n3_ : Aside0 (Below w.heap.size w ((w16.setCell ⟨gb395, 0, none⟩ (.int .i64 t392)).setCell ⟨gb395, 1, none⟩ (.int .i64 t393))) := ⟨by repeat (first | (with_reducible first | exact HB.out | apply below_alloc | apply pw_below_drewN | apply below_drew1 | refine below_set ?_ GE388.out | refine below_set ?_ GE395.out) | exact HB.out)⟩
 (try clear HO391)
 (try clear BK388)
 (try clear BK395)
 (try clear HB)
 generalize ((w16.setCell ⟨gb395, 0, none⟩ (.int .i64 t392)).setCell ⟨gb395, 1, none⟩ (.int .i64 t393)) = w19 at n0_ n1_ n2_ n3_ ⊢
 have HO391 := n0_
 have BK388 := n1_
 have BK395 := n2_
 have HB := n3_
 clear n0_ n1_ n2_ n3_
 have n0_ := Aside0.mk (Kd.R_drew HO391.out)
 have n1_ := Aside0.mk (blk_drew BK388.out)
 have n2_ := Aside0.mk (blk_drew BK395.out)
 have n3_ := Aside0.mk (below_drew1 HB.out)
 clear HO391
 clear BK388
 clear BK395
 clear HB
 have HO391 := n0_
 have BK388 := n1_
 have BK395 := n2_
 have HB := n3_
 clear n0_ n1_ n2_ n3_
 refine start_ (n := 9) (S := fun w' => w'.cell? ⟨gb388, 0, none⟩ = some (.int .i64 a1_0) ∧ w'.cell? ⟨gb388, 1, none⟩ = some (.int .i64 a1_1)) (ds := []) #[false, false, false, false, false, false, false, false, false] (by kernel_rfl) rfl rfl ⟨(blk_cell BK388.out 0).trans rfl, (blk_cell BK388.out 1).trans rfl⟩ (fun hHeld => ?_); refine with_tabW comfitlaw06_TagsCircles.tab2 comfitlaw06_TagsCircles.bits2 (fun HT_ HW_ => ?_)
 generalize w19.drew = w20 at HO391 BK388 BK395 HB hHeld ⊢
 refine pure_ (i := 0) (N := some 33) (v := ?_) (a' := ?_) #[true, false, false, false, false, false, false, false, false] rfl rfl (any_of HT_.out (by kernel_rfl)) (fun _ _ _ h => h) (Or.inl ⟨by rfl, ?_⟩) ?_ ?_
 rotate_left
 ·intro w'
  go_simp
  with_reducible rfl
 rotate_left
 ·simp only [Act.put, List.setIfInBounds_toArray, List.set_cons_zero, List.set_cons_succ, i64_w, i32_w]
  rfl
 refine take_ (i := 2) (N := some 35) (v := ?_) (a' := ?_) #[true, false, true, false, false, false, false, false, false] rfl rfl (take_ofW HT_.out HW_.out (by kernel_rfl)) (fun _ _ _ h => h) (Or.inl ⟨by rfl, ?_⟩) hHeld ?_ ?_
 rotate_left
 ·rintro w' ⟨s0, s1⟩
  go_simp
  with_reducible rfl
 rotate_left
 ·simp only [Act.put, List.setIfInBounds_toArray, List.set_cons_zero, List.set_cons_succ, i64_w, i32_w]
  rfl
 refine one_ (i := 1) (N := some 34) #[true, true, true, false, false, false, false, false, false] rfl rfl (one_of HT_.out (by kernel_rfl)) (by decide) (fun K hK => ?_)
 refine goes_ Try.func11 (by kernel_rfl) rfl #[.slice A0 l0.length c0] (by rfl) rfl rfl al_ ?_
 with_reducible refine (comfitlaw06_Of.calls k _ _ l0 t396 _ ?side1 ?side2 A7.out).mono ?_
 (case side1 => exact kc_ (Kd.C_below HR0.out HB.out))
 (case side2 => exact HC0.out)
 rintro e w21 ⟨v397, rfl, ho0, hb⟩
 refine ⟨_, rfl, ?_⟩
 have n0_ := Aside0.mk (Kd.R_elder' (kr_ (HO391.out)) (Kd.R_base ho0) hb)
 have n1_ := Aside0.mk (Kd.R_lower (Kd.R_new' ho0 (Kd.R_lt (kr_ (HO391.out)))) (below_size (hb_ HB.out)))
 have n2_ := Aside0.mk (bkb_ BK388.out hb)
 have n3_ := Aside0.mk (bkb_ BK395.out hb)
 have n4_ := Aside0.mk (below_step (hb_ HB.out) hb)
 clear HO391
 clear BK388
 clear BK395
 clear HB
 have HO391 := n0_
 have HO398 := n1_
 have BK388 := n2_
 have BK395 := n3_
 have HB := n4_
 clear n0_ n1_ n2_ n3_ n4_
 (try clear hb)
 (try clear hb2)
 (try clear hk)
 (try clear hi)
 (try clear ho0)
 obtain ⟨Ao22, co22, eo22⟩ := Kd.R_slice HO398.out
 (first | subst eo22 | (injection eo22 with f1_ f2_ f3_; have f4_ := f1_.symm; have f5_ := f3_.symm; clear f1_ f2_ f3_; subst f4_; subst f5_))
 refine hK.out _ _ ⟨(blk_cell BK388.out 0).trans rfl, (blk_cell BK388.out 1).trans rfl⟩ (fun hHeld => ?_)
 clear hK K
 refine norm_ (a' := ?_) ?_ ?_
 rotate_left
 ·show Act.put _ (some 34) _ = _
  simp only [Act.put, List.setIfInBounds_toArray, List.set_cons_zero, List.set_cons_succ, i64_w, i32_w]
  rfl
 refine one_ (i := 3) (N := some 36) #[true, true, true, true, false, false, false, false, false] rfl rfl (one_of HT_.out (by kernel_rfl)) (by decide) (fun K hK => ?_)
 refine goes_ Try.func16 (by kernel_rfl) rfl #[.slice Ao22 t396.length co22, .agg #[.int .i64 a1_0, .int .i64 a1_1]] (by rfl) rfl rfl al_ ?_
 with_reducible refine (tags_Ends.calls k _ _ t396 a1_0 a1_1 t399 t400 _ ?side1 ?side2 A8.out).mono ?_
 (case side1 => exact kc_ (Kd.R_reads' HO398.out).2.2)
 (case side2 => exact (Kd.R_reads' HO398.out).2.1)
 rintro e w23 ⟨rfl, hb⟩
 refine ⟨_, rfl, ?_⟩
 have n0_ := Aside0.mk (Kd.R_below (kr_ (HO391.out)) hb)
 have n1_ := Aside0.mk (Kd.R_below (kr_ (HO398.out)) hb)
 have n2_ := Aside0.mk (bkb_ BK388.out hb)
 have n3_ := Aside0.mk (bkb_ BK395.out hb)
 have n4_ := Aside0.mk (below_step (hb_ HB.out) hb)
 clear HO391
 clear HO398
 clear BK388
 clear BK395
 clear HB
 have HO391 := n0_
 have HO398 := n1_
 have BK388 := n2_
 have BK395 := n3_
 have HB := n4_
 clear n0_ n1_ n2_ n3_ n4_
 (try clear hb)
 (try clear hb2)
 (try clear hk)
 (try clear hi)
 refine hK.out _ _ ⟨(blk_cell BK388.out 0).trans rfl, (blk_cell BK388.out 1).trans rfl⟩ (fun hHeld => ?_)
 clear hK K
 refine norm_ (a' := ?_) ?_ ?_
 rotate_left
 ·show Act.put _ (some 36) _ = _
  simp only [Act.put, List.setIfInBounds_toArray, List.set_cons_zero, List.set_cons_succ, i64_w, i32_w]
  rfl
 refine pure_ (i := 4) (N := some 32) (v := ?_) (a' := ?_) #[true, true, true, true, true, false, false, false, false] rfl rfl (any_of HT_.out (by kernel_rfl)) (fun _ _ _ h => h) (Or.inl ⟨by rfl, ?_⟩) ?_ ?_
 rotate_left
 ·intro w'
  go_simp
  with_reducible rfl
 rotate_left
 ·simp only [Act.put, List.setIfInBounds_toArray, List.set_cons_zero, List.set_cons_succ, i64_w, i32_w]
  rfl
 refine pure_ (i := 5) (N := some 37) (v := ?_) (a' := ?_) #[true, true, true, true, true, true, false, false, false] rfl rfl (any_of HT_.out (by kernel_rfl)) (fun _ _ _ h => h) (Or.inl ⟨by rfl, ?_⟩) ?_ ?_
 rotate_left
 ·intro w'
  go_simp
  with_reducible rfl
 rotate_left
 ·simp only [Act.put, List.setIfInBounds_toArray, List.set_cons_zero, List.set_cons_succ, i64_w, i32_w]
  rfl
 refine pure_ (i := 6) (N := some 38) (v := ?_) (a' := ?_) #[true, true, true, true, true, true, true, false, false] rfl rfl (any_of HT_.out (by kernel_rfl)) (fun _ _ _ h => h) (Or.inl ⟨by rfl, ?_⟩) ?_ ?_
 rotate_left
 ·intro w'
  go_simp
  with_reducible rfl
 rotate_left
 ·simp only [Act.put, List.setIfInBounds_toArray, List.set_cons_zero, List.set_cons_succ, i64_w, i32_w]
  rfl
 refine pure_ (i := 7) (N := some 11) (v := ?_) (a' := ?_) #[true, true, true, true, true, true, true, true, false] rfl rfl (any_of HT_.out (by kernel_rfl)) (fun _ _ _ h => h) (Or.inl ⟨by rfl, ?_⟩) ?_ ?_
 rotate_left
 ·intro w'
  go_simp
  with_reducible rfl
 rotate_left
 ·simp only [Act.put, List.setIfInBounds_toArray, List.set_cons_zero, List.set_cons_succ, i64_w, i32_w]
  rfl
 refine pure_ (i := 8) (N := some 12) (v := ?_) (a' := ?_) #[true, true, true, true, true, true, true, true, true] rfl rfl (any_of HT_.out (by kernel_rfl)) (fun _ _ _ h => h) (Or.inl ⟨by rfl, ?_⟩) ?_ ?_
 rotate_left
 ·intro w'
  go_simp
  with_reducible rfl
 rotate_left
 ·simp only [Act.put, List.setIfInBounds_toArray, List.set_cons_zero, List.set_cons_succ, i64_w, i32_w]
  rfl
 refine done_ (done_of HT_.out (by kernel_rfl)) ?_
 go_upto_region 3 with (fail)
 go_cut [46] (fun v46 wc => ∃ (kq : Nat) (x46_8 : Bool), v46 = .bool x46_8 ∧ Aside0 (comfitlaw06_TagsCircles.j0 kq l0 a2 a3 t394 t399 t400 x46_8 a1_0 a1_1 t392 t393 = some r) ∧ Aside0 (kq ≤ k) ∧ Aside0 (wc.heap[gb388]? = some (.cells #[.int .i64 a1_0, .int .i64 a1_1] 23 (0, 0))) ∧ Aside0 (wc.heap[gb395]? = some (.cells #[.int .i64 t392, .int .i64 t393] 23 (0, 0))) ∧ Aside0 (Below w.heap.size w wc))
 case first =>
  have H := HC9.out
  clear HC9
  replace H := Option.bind_eq_some_iff.mp H
  obtain ⟨t401, A240, H⟩ := H
  replace H : (if t401 = true then ((comfitref06_Jars.f a1_0 a1_1).bind fun t402 => (comfitlaw06_TagsCircles.j0 k l0 a2 a3 t394 t399 t400 (!t402) a1_0 a1_1 t392 t393)) else (comfitlaw06_TagsCircles.j0 k l0 a2 a3 t394 t399 t400 true a1_0 a1_1 t392 t393)) = some r := H
  have A24 := Aside0.mk A240
  clear A240
  by_cases c25 : t401 = true
  ·subst c25
   have H1 : ((comfitref06_Jars.f a1_0 a1_1).bind fun t402 => (comfitlaw06_TagsCircles.j0 k l0 a2 a3 t394 t399 t400 (!t402) a1_0 a1_1 t392 t393)) = some r := by rw [if_pos rfl] at H; exact H
   clear H
   have H := H1
   clear H1
   replace H := Option.bind_eq_some_iff.mp H
   obtain ⟨t402, A260, H⟩ := H
   replace H : (comfitlaw06_TagsCircles.j0 k l0 a2 a3 t394 t399 t400 (!t402) a1_0 a1_1 t392 t393) = some r := H
   have A26 := Aside0.mk A260
   clear A260
   as_aux_lemma =>
    have H' := Aside0.mk H
    clear H
    go_wp2_with (first | ((with_reducible refine gate_callee (f := 12) rfl ?_); refine goesL_ (some 40) rfl rfl Try.func12 (by kernel_rfl) rfl #[.slice A0 l0.length c0] rfl al_ ?_; (with_reducible refine (comfitref06_Machine.calls k _ _ l0 true _ ?side1 ?side2 A24.out).mono ?_); (case side1 => exact kc_ (Kd.C_below HR0.out HB.out)); (case side2 => exact HC0.out); rintro e w27 ⟨rfl, hb⟩; refine ⟨_, rfl, ?_⟩; have n0_ := Aside0.mk (Kd.R_below (kr_ (HO391.out)) hb); have n1_ := Aside0.mk (Kd.R_below (kr_ (HO398.out)) hb); have n2_ := Aside0.mk (bkb_ BK388.out hb); have n3_ := Aside0.mk (bkb_ BK395.out hb); have n4_ := Aside0.mk (below_step (hb_ HB.out) hb); clear HO391; clear HO398; clear BK388; clear BK395; clear HB; have HO391 := n0_; have HO398 := n1_; have BK388 := n2_; have BK395 := n3_; have HB := n4_; clear n0_ n1_ n2_ n3_ n4_; (try clear hb); (try clear hb2); (try clear hk); (try clear hi); have hnb28 := NB388_395.out; have hnc28 := NB395_388.out; have hcz29_0 : w27.cell? ⟨gb388, 0, none⟩ = some (.int .i64 a1_0) := (blk_cell BK388.out 0).trans rfl; have hcz29_1 : w27.cell? ⟨gb388, 1, none⟩ = some (.int .i64 a1_1) := (blk_cell BK388.out 1).trans rfl; have hfz29_0 := blk_frozen BK388.out 0; have hfz29_1 := blk_frozen BK388.out 1) | (go_at_call 13; (with_reducible refine (comfitref06_Jars.calls a1_0 a1_1 t402 _ A26.out).mono ?_); rintro e w30 ⟨rfl, hb⟩; have n0_ := Aside0.mk (Kd.R_below (kr_ (HO391.out)) hb); have n1_ := Aside0.mk (Kd.R_below (kr_ (HO398.out)) hb); have n2_ := Aside0.mk (bkb_ BK388.out hb); have n3_ := Aside0.mk (bkb_ BK395.out hb); have n4_ := Aside0.mk (below_step (hb_ HB.out) hb); clear HO391; clear HO398; clear BK388; clear BK395; clear HB; have HO391 := n0_; have HO398 := n1_; have BK388 := n2_; have BK395 := n3_; have HB := n4_; clear n0_ n1_ n2_ n3_ n4_; (try clear hb); (try clear hb2); (try clear hk); (try clear hi)))
    go_meet
    case rel => exact ⟨_, (!t402), (by first | rfl | (simp; done) | (simp [*]; done)), H', ⟨by first | omega | exact Nat.le_refl _⟩, ⟨by (with_reducible repeat (first | refine blk_drewN ?_ _ | refine blk_drew ?_ | refine blk_alloc ?_ _)); exact BK388.out⟩, ⟨by (with_reducible repeat (first | refine blk_drewN ?_ _ | refine blk_drew ?_ | refine blk_alloc ?_ _)); exact BK395.out⟩, ⟨by repeat (first | (with_reducible first | exact HB.out | apply below_alloc | apply pw_below_drewN | apply below_drew1 | refine below_set ?_ GE388.out | refine below_set ?_ GE395.out) | exact HB.out)⟩⟩
  ·replace c25 := Bool.eq_false_iff.mpr c25
   subst c25
   have H1 : (comfitlaw06_TagsCircles.j0 k l0 a2 a3 t394 t399 t400 true a1_0 a1_1 t392 t393) = some r := by rw [if_neg (show ¬ (false = true) by decide)] at H; exact H
   clear H
   have H := H1
   clear H1
   as_aux_lemma =>
    have H' := Aside0.mk H
    clear H
    go_wp2_with (first | ((with_reducible refine gate_callee (f := 12) rfl ?_); refine goesL_ (some 40) rfl rfl Try.func12 (by kernel_rfl) rfl #[.slice A0 l0.length c0] rfl al_ ?_; (with_reducible refine (comfitref06_Machine.calls k _ _ l0 false _ ?side1 ?side2 A24.out).mono ?_); (case side1 => exact kc_ (Kd.C_below HR0.out HB.out)); (case side2 => exact HC0.out); rintro e w31 ⟨rfl, hb⟩; refine ⟨_, rfl, ?_⟩; have n0_ := Aside0.mk (Kd.R_below (kr_ (HO391.out)) hb); have n1_ := Aside0.mk (Kd.R_below (kr_ (HO398.out)) hb); have n2_ := Aside0.mk (bkb_ BK388.out hb); have n3_ := Aside0.mk (bkb_ BK395.out hb); have n4_ := Aside0.mk (below_step (hb_ HB.out) hb); clear HO391; clear HO398; clear BK388; clear BK395; clear HB; have HO391 := n0_; have HO398 := n1_; have BK388 := n2_; have BK395 := n3_; have HB := n4_; clear n0_ n1_ n2_ n3_ n4_; (try clear hb); (try clear hb2); (try clear hk); (try clear hi)))
    go_meet
    case rel => exact ⟨_, (true), (by first | rfl | (simp; done) | (simp [*]; done)), H', ⟨by first | omega | exact Nat.le_refl _⟩, ⟨by (with_reducible repeat (first | refine blk_drewN ?_ _ | refine blk_drew ?_ | refine blk_alloc ?_ _)); exact BK388.out⟩, ⟨by (with_reducible repeat (first | refine blk_drewN ?_ _ | refine blk_drew ?_ | refine blk_alloc ?_ _)); exact BK395.out⟩, ⟨by repeat (first | (with_reducible first | exact HB.out | apply below_alloc | apply pw_below_drewN | apply below_drew1 | refine below_set ?_ GE388.out | refine below_set ?_ GE395.out) | exact HB.out)⟩⟩
 case rest =>
  clear HC9
  try clear c1
  try clear c2
  try clear p2
  try clear c6
  try clear c11
  try clear c12
  try clear c16
  try clear c17
  try clear c25
  try clear c28
  try clear hcz29_0
  try clear hcz29_1
  try clear hfz29_0
  try clear hfz29_1
  obtain ⟨kq, x46_8, rfl, HA, HJ8, BK388, BK395, HB⟩ := hcut
  cases kq with
  | zero => exact absurd HA.out (by simp [comfitlaw06_TagsCircles.j0])
  | succ kj8 =>
   have H := HA.out
   clear HA
   simp only [comfitlaw06_TagsCircles.j0] at H
   by_cases c32 : x46_8 = true
   ·subst c32
    have H1 : (if t394 = 2 then (if t400 = t394 then ((comfitlaw06_awake.f kj8).bind fun t403 => (some t403)) else (none)) else (none)) = some r := by rw [if_pos rfl] at H; exact H
    clear H
    have H := H1
    clear H1
    by_cases c33 : t394 = 2
    ·rw [if_pos c33] at H
     have c33b0 : (t394 == 2) = true := beq_iff_eq.mpr c33
     have c33b1 : (t394 != 2) = false := bne_eq_false_iff_eq.mpr c33
     clear c33
     by_cases c34 : t400 = t394
     ·rw [if_pos c34] at H
      have c34b0 : (t400 == t394) = true := beq_iff_eq.mpr c34
      have c34b1 : (t400 != t394) = false := bne_eq_false_iff_eq.mpr c34
      clear c34
      replace H := Option.bind_eq_some_iff.mp H
      obtain ⟨t403, A350, H⟩ := H
      replace H : (some t403) = some r := H
      have A35 := Aside0.mk A350
      clear A350
      as_aux_lemma =>
       obtain rfl := Option.some.inj H
       go_wp2_with (first | (go_at_call 14; (with_reducible refine (comfitlaw06_awake.calls kj8  t403 _ A35.out).mono ?_); rintro e w36 ⟨rfl, hb⟩; have n0_ := Aside0.mk (bkb_ BK388.out hb); have n1_ := Aside0.mk (bkb_ BK395.out hb); have n2_ := Aside0.mk (below_step (hb_ HB.out) hb); clear BK388; clear BK395; clear HB; have BK388 := n0_; have BK395 := n1_; have HB := n2_; clear n0_ n1_ n2_; (try clear hb); (try clear hb2); (try clear hk); (try clear hi)))
       go_ret
       exact ⟨by first | rfl | (simp [errW_none, errW_some] <;> rfl) | (simp [*, errW_none, errW_some] <;> rfl), by repeat (first | (with_reducible first | exact HB.out | apply below_alloc | apply pw_below_drewN | apply below_drew1 | refine below_set ?_ GE388.out | refine below_set ?_ GE395.out) | exact HB.out)⟩
     ·rw [if_neg c34] at H
      exact absurd H (by simp)
    ·rw [if_neg c33] at H
     exact absurd H (by simp)
   ·replace c32 := Bool.eq_false_iff.mpr c32
    subst c32
    have H1 : (if t394 = 0 then ((comfitlaw06_Of.f kj8 l0).bind fun t404 => ((tags_CheckCircle.f kj8 t404 a1_0 a1_1 t392 t393).bind fun bt407 => (if bt407.1 = true then (if bt407.2 = 0 then (if t400 = 4 then (if t392 < 0 then (comfitlaw06_TagsCircles.j1 kj8 l0 a2 a3 t394 t399 t400 true a1_0 a1_1 t392 t393) else (if t392 ≥ t393 then (comfitlaw06_TagsCircles.j1 kj8 l0 a2 a3 t394 t399 t400 true a1_0 a1_1 t392 t393) else (comfitlaw06_TagsCircles.j1 kj8 l0 a2 a3 t394 t399 t400 (decide (t393 > 200)) a1_0 a1_1 t392 t393))) else (comfitlaw06_TagsCircles.j1 kj8 l0 a2 a3 t394 t399 t400 true a1_0 a1_1 t392 t393)) else (comfitlaw06_TagsCircles.j1 kj8 l0 a2 a3 t394 t399 t400 true a1_0 a1_1 t392 t393)) else (comfitlaw06_TagsCircles.j1 kj8 l0 a2 a3 t394 t399 t400 true a1_0 a1_1 t392 t393)))) else (if t394 = 4 then (comfitlaw06_TagsCircles.j2 kj8 l0 a2 a3 t394 t399 t400 a1_0 a1_1 t392 t393) else (none))) = some r := by rw [if_neg (show ¬ (false = true) by decide)] at H; exact H
    clear H
    have H := H1
    clear H1
    have HC37 := Aside0.mk H
    clear H
    go_upto_if 58 with (fail)
    go_cut [] (fun wc => ∃ (kq : Nat), Aside0 (comfitlaw06_TagsCircles.j2 kq l0 a2 a3 t394 t399 t400 a1_0 a1_1 t392 t393 = some r) ∧ Aside0 (kq ≤ kj8) ∧ Aside0 (wc.heap[gb388]? = some (.cells #[.int .i64 a1_0, .int .i64 a1_1] 23 (0, 0))) ∧ Aside0 (wc.heap[gb395]? = some (.cells #[.int .i64 t392, .int .i64 t393] 23 (0, 0))) ∧ Aside0 (Below w.heap.size w wc))
    case first =>
     have H := HC37.out
     clear HC37
     by_cases c38 : t394 = 0
     ·rw [if_pos c38] at H
      have c38b0 : (t394 == 0) = true := beq_iff_eq.mpr c38
      have c38b1 : (t394 != 0) = false := bne_eq_false_iff_eq.mpr c38
      clear c38
      (first | rw [c38b0] | (simp only [i64_w, i32_w]; rw [c38b0]) | skip)
      replace H := Option.bind_eq_some_iff.mp H
      obtain ⟨t404, A390, H⟩ := H
      replace H : ((tags_CheckCircle.f kj8 t404 a1_0 a1_1 t392 t393).bind fun bt407 => (if bt407.1 = true then (if bt407.2 = 0 then (if t400 = 4 then (if t392 < 0 then (comfitlaw06_TagsCircles.j1 kj8 l0 a2 a3 t394 t399 t400 true a1_0 a1_1 t392 t393) else (if t392 ≥ t393 then (comfitlaw06_TagsCircles.j1 kj8 l0 a2 a3 t394 t399 t400 true a1_0 a1_1 t392 t393) else (comfitlaw06_TagsCircles.j1 kj8 l0 a2 a3 t394 t399 t400 (decide (t393 > 200)) a1_0 a1_1 t392 t393))) else (comfitlaw06_TagsCircles.j1 kj8 l0 a2 a3 t394 t399 t400 true a1_0 a1_1 t392 t393)) else (comfitlaw06_TagsCircles.j1 kj8 l0 a2 a3 t394 t399 t400 true a1_0 a1_1 t392 t393)) else (comfitlaw06_TagsCircles.j1 kj8 l0 a2 a3 t394 t399 t400 true a1_0 a1_1 t392 t393))) = some r := H
      have A39 := Aside0.mk A390
      clear A390
      replace H := Option.bind_eq_some_iff.mp H
      obtain ⟨⟨t407, t408⟩, A400, H⟩ := H
      replace H : (if t407 = true then (if t408 = 0 then (if t400 = 4 then (if t392 < 0 then (comfitlaw06_TagsCircles.j1 kj8 l0 a2 a3 t394 t399 t400 true a1_0 a1_1 t392 t393) else (if t392 ≥ t393 then (comfitlaw06_TagsCircles.j1 kj8 l0 a2 a3 t394 t399 t400 true a1_0 a1_1 t392 t393) else (comfitlaw06_TagsCircles.j1 kj8 l0 a2 a3 t394 t399 t400 (decide (t393 > 200)) a1_0 a1_1 t392 t393))) else (comfitlaw06_TagsCircles.j1 kj8 l0 a2 a3 t394 t399 t400 true a1_0 a1_1 t392 t393)) else (comfitlaw06_TagsCircles.j1 kj8 l0 a2 a3 t394 t399 t400 true a1_0 a1_1 t392 t393)) else (comfitlaw06_TagsCircles.j1 kj8 l0 a2 a3 t394 t399 t400 true a1_0 a1_1 t392 t393)) = some r := H
      have A40 := Aside0.mk A400
      clear A400
      have HC41 := Aside0.mk H
      clear H
      try go_wp2
      have n0_ := Aside0.mk (blk_drew BK388.out)
      have n1_ := Aside0.mk (blk_drew BK395.out)
      have n2_ := Aside0.mk (below_drew1 HB.out)
      clear BK388
      clear BK395
      clear HB
      have BK388 := n0_
      have BK395 := n1_
      have HB := n2_
      clear n0_ n1_ n2_
      refine start_ (n := 10) (S := fun w' => w'.cell? ⟨gb388, 0, none⟩ = some (.int .i64 a1_0) ∧ w'.cell? ⟨gb388, 1, none⟩ = some (.int .i64 a1_1) ∧ w'.cell? ⟨gb395, 0, none⟩ = some (.int .i64 t392) ∧ w'.cell? ⟨gb395, 1, none⟩ = some (.int .i64 t393)) (ds := []) #[false, false, false, false, false, false, false, false, false, false] (by kernel_rfl) rfl rfl ⟨(blk_cell BK388.out 0).trans rfl, (blk_cell BK388.out 1).trans rfl, (blk_cell BK395.out 0).trans rfl, (blk_cell BK395.out 1).trans rfl⟩ (fun hHeld => ?_); refine with_tabW comfitlaw06_TagsCircles.tab6 comfitlaw06_TagsCircles.bits6 (fun HT_ HW_ => ?_)
      generalize wc.drew = w42 at BK388 BK395 HB hHeld ⊢
      refine pure_ (i := 0) (N := some 60) (v := ?_) (a' := ?_) #[true, false, false, false, false, false, false, false, false, false] rfl rfl (any_of HT_.out (by kernel_rfl)) (fun _ _ _ h => h) (Or.inl ⟨by rfl, ?_⟩) ?_ ?_
      rotate_left
      ·intro w'
       go_simp
       with_reducible rfl
      rotate_left
      ·simp only [Act.put, List.setIfInBounds_toArray, List.set_cons_zero, List.set_cons_succ, i64_w, i32_w]
       rfl
      refine take_ (i := 2) (N := some 62) (v := ?_) (a' := ?_) #[true, false, true, false, false, false, false, false, false, false] rfl rfl (take_ofW HT_.out HW_.out (by kernel_rfl)) (fun _ _ _ h => h) (Or.inl ⟨by rfl, ?_⟩) hHeld ?_ ?_
      rotate_left
      ·rintro w' ⟨s0, s1, s2, s3⟩
       go_simp
       with_reducible rfl
      rotate_left
      ·simp only [Act.put, List.setIfInBounds_toArray, List.set_cons_zero, List.set_cons_succ, i64_w, i32_w]
       rfl
      refine take_ (i := 3) (N := some 63) (v := ?_) (a' := ?_) #[true, false, true, true, false, false, false, false, false, false] rfl rfl (take_ofW HT_.out HW_.out (by kernel_rfl)) (fun _ _ _ h => h) (Or.inl ⟨by rfl, ?_⟩) hHeld ?_ ?_
      rotate_left
      ·rintro w' ⟨s0, s1, s2, s3⟩
       go_simp
       with_reducible rfl
      rotate_left
      ·simp only [Act.put, List.setIfInBounds_toArray, List.set_cons_zero, List.set_cons_succ, i64_w, i32_w]
       rfl
      refine one_ (i := 1) (N := some 61) #[true, true, true, true, false, false, false, false, false, false] rfl rfl (one_of HT_.out (by kernel_rfl)) (by decide) (fun K hK => ?_)
      refine goes_ Try.func11 (by kernel_rfl) rfl #[.slice A0 l0.length c0] (by rfl) rfl rfl al_ ?_
      with_reducible refine (comfitlaw06_Of.calls kj8 _ _ l0 t404 _ ?side1 ?side2 A39.out).mono ?_
      (case side1 => exact kc_ (Kd.C_below HR0.out HB.out))
      (case side2 => exact HC0.out)
      rintro e w43 ⟨v405, rfl, ho0, hb⟩
      refine ⟨_, rfl, ?_⟩
      have n0_ := Aside0.mk (Kd.R_lower ho0 (below_size (hb_ HB.out)))
      have n1_ := Aside0.mk (bkb_ BK388.out hb)
      have n2_ := Aside0.mk (bkb_ BK395.out hb)
      have n3_ := Aside0.mk (below_step (hb_ HB.out) hb)
      clear BK388
      clear BK395
      clear HB
      have HO406 := n0_
      have BK388 := n1_
      have BK395 := n2_
      have HB := n3_
      clear n0_ n1_ n2_ n3_
      (try clear hb)
      (try clear hb2)
      (try clear hk)
      (try clear hi)
      (try clear ho0)
      obtain ⟨Ao44, co44, eo44⟩ := Kd.R_slice HO406.out
      (first | subst eo44 | (injection eo44 with f1_ f2_ f3_; have f4_ := f1_.symm; have f5_ := f3_.symm; clear f1_ f2_ f3_; subst f4_; subst f5_))
      refine hK.out _ _ ⟨(blk_cell BK388.out 0).trans rfl, (blk_cell BK388.out 1).trans rfl, (blk_cell BK395.out 0).trans rfl, (blk_cell BK395.out 1).trans rfl⟩ (fun hHeld => ?_)
      clear hK K
      refine norm_ (a' := ?_) ?_ ?_
      rotate_left
      ·show Act.put _ (some 61) _ = _
       simp only [Act.put, List.setIfInBounds_toArray, List.set_cons_zero, List.set_cons_succ, i64_w, i32_w]
       rfl
      refine one_ (i := 4) (N := some 64) #[true, true, true, true, true, false, false, false, false, false] rfl rfl (one_of HT_.out (by kernel_rfl)) (by decide) (fun K hK => ?_)
      refine goes_ Try.func18 (by kernel_rfl) rfl #[.slice Ao44 t404.length co44, .agg #[.int .i64 a1_0, .int .i64 a1_1], .agg #[.int .i64 t392, .int .i64 t393]] (by rfl) rfl rfl al_ ?_
      with_reducible refine (tags_CheckCircle.calls kj8 _ _ t404 a1_0 a1_1 t392 t393 t407 t408 _ ?side1 ?side2 A40.out).mono ?_
      (case side1 => exact kc_ (Kd.R_reads' HO406.out).2.2)
      (case side2 => exact (Kd.R_reads' HO406.out).2.1)
      rintro e w45 ⟨rfl, hb⟩
      refine ⟨_, rfl, ?_⟩
      have n0_ := Aside0.mk (Kd.R_below (kr_ (HO406.out)) hb)
      have n1_ := Aside0.mk (bkb_ BK388.out hb)
      have n2_ := Aside0.mk (bkb_ BK395.out hb)
      have n3_ := Aside0.mk (below_step (hb_ HB.out) hb)
      clear HO406
      clear BK388
      clear BK395
      clear HB
      have HO406 := n0_
      have BK388 := n1_
      have BK395 := n2_
      have HB := n3_
      clear n0_ n1_ n2_ n3_
      (try clear hb)
      (try clear hb2)
      (try clear hk)
      (try clear hi)
      refine hK.out _ _ ⟨(blk_cell BK388.out 0).trans rfl, (blk_cell BK388.out 1).trans rfl, (blk_cell BK395.out 0).trans rfl, (blk_cell BK395.out 1).trans rfl⟩ (fun hHeld => ?_)
      clear hK K
      refine norm_ (a' := ?_) ?_ ?_
      rotate_left
      ·show Act.put _ (some 64) _ = _
       simp only [Act.put, List.setIfInBounds_toArray, List.set_cons_zero, List.set_cons_succ, i64_w, i32_w]
       rfl
      refine pure_ (i := 5) (N := some 59) (v := ?_) (a' := ?_) #[true, true, true, true, true, true, false, false, false, false] rfl rfl (any_of HT_.out (by kernel_rfl)) (fun _ _ _ h => h) (Or.inl ⟨by rfl, ?_⟩) ?_ ?_
      rotate_left
      ·intro w'
       go_simp
       with_reducible rfl
      rotate_left
      ·simp only [Act.put, List.setIfInBounds_toArray, List.set_cons_zero, List.set_cons_succ, i64_w, i32_w]
       rfl
      refine pure_ (i := 6) (N := some 65) (v := ?_) (a' := ?_) #[true, true, true, true, true, true, true, false, false, false] rfl rfl (any_of HT_.out (by kernel_rfl)) (fun _ _ _ h => h) (Or.inl ⟨by rfl, ?_⟩) ?_ ?_
      rotate_left
      ·intro w'
       go_simp
       with_reducible rfl
      rotate_left
      ·simp only [Act.put, List.setIfInBounds_toArray, List.set_cons_zero, List.set_cons_succ, i64_w, i32_w]
       rfl
      refine pure_ (i := 7) (N := some 66) (v := ?_) (a' := ?_) #[true, true, true, true, true, true, true, true, false, false] rfl rfl (any_of HT_.out (by kernel_rfl)) (fun _ _ _ h => h) (Or.inl ⟨by rfl, ?_⟩) ?_ ?_
      rotate_left
      ·intro w'
       go_simp
       with_reducible rfl
      rotate_left
      ·simp only [Act.put, List.setIfInBounds_toArray, List.set_cons_zero, List.set_cons_succ, i64_w, i32_w]
       rfl
      refine pure_ (i := 8) (N := some 13) (v := ?_) (a' := ?_) #[true, true, true, true, true, true, true, true, true, false] rfl rfl (any_of HT_.out (by kernel_rfl)) (fun _ _ _ h => h) (Or.inl ⟨by rfl, ?_⟩) ?_ ?_
      rotate_left
      ·intro w'
       go_simp
       with_reducible rfl
      rotate_left
      ·simp only [Act.put, List.setIfInBounds_toArray, List.set_cons_zero, List.set_cons_succ, i64_w, i32_w]
       rfl
      refine pure_ (i := 9) (N := some 14) (v := ?_) (a' := ?_) #[true, true, true, true, true, true, true, true, true, true] rfl rfl (any_of HT_.out (by kernel_rfl)) (fun _ _ _ h => h) (Or.inl ⟨by rfl, ?_⟩) ?_ ?_
      rotate_left
      ·intro w'
       go_simp
       with_reducible rfl
      rotate_left
      ·simp only [Act.put, List.setIfInBounds_toArray, List.set_cons_zero, List.set_cons_succ, i64_w, i32_w]
       rfl
      refine done_ (done_of HT_.out (by kernel_rfl)) ?_
      go_upto_region 7 with (fail)
      go_cut [93] (fun v93 wc => ∃ (kq : Nat) (x93_40 : Bool), v93 = .bool x93_40 ∧ Aside0 (comfitlaw06_TagsCircles.j1 kq l0 a2 a3 t394 t399 t400 x93_40 a1_0 a1_1 t392 t393 = some r) ∧ Aside0 (kq ≤ kj8) ∧ Aside0 (wc.heap[gb388]? = some (.cells #[.int .i64 a1_0, .int .i64 a1_1] 23 (0, 0))) ∧ Aside0 (wc.heap[gb395]? = some (.cells #[.int .i64 t392, .int .i64 t393] 23 (0, 0))) ∧ Aside0 (Below w.heap.size w wc))
      case first =>
       have H := HC41.out
       clear HC41
       by_cases c46 : t407 = true
       ·subst c46
        have H1 : (if t408 = 0 then (if t400 = 4 then (if t392 < 0 then (comfitlaw06_TagsCircles.j1 kj8 l0 a2 a3 t394 t399 t400 true a1_0 a1_1 t392 t393) else (if t392 ≥ t393 then (comfitlaw06_TagsCircles.j1 kj8 l0 a2 a3 t394 t399 t400 true a1_0 a1_1 t392 t393) else (comfitlaw06_TagsCircles.j1 kj8 l0 a2 a3 t394 t399 t400 (decide (t393 > 200)) a1_0 a1_1 t392 t393))) else (comfitlaw06_TagsCircles.j1 kj8 l0 a2 a3 t394 t399 t400 true a1_0 a1_1 t392 t393)) else (comfitlaw06_TagsCircles.j1 kj8 l0 a2 a3 t394 t399 t400 true a1_0 a1_1 t392 t393)) = some r := by rw [if_pos rfl] at H; exact H
        clear H
        have H := H1
        clear H1
        by_cases c47 : t408 = 0
        ·rw [if_pos c47] at H
         have c47b0 : (t408 == 0) = true := beq_iff_eq.mpr c47
         have c47b1 : (t408 != 0) = false := bne_eq_false_iff_eq.mpr c47
         clear c47
         (first | rw [c47b0] | (simp only [i64_w, i32_w]; rw [c47b0]) | skip)
         by_cases c48 : t400 = 4
         ·rw [if_pos c48] at H
          have c48b0 : (t400 == 4) = true := beq_iff_eq.mpr c48
          have c48b1 : (t400 != 4) = false := bne_eq_false_iff_eq.mpr c48
          clear c48
          by_cases c49 : t392 < 0
          ·rw [if_pos c49] at H
           have c49b0 : decide (t392 < 0) = true := decide_eq_true c49
           clear c49
           as_aux_lemma =>
            have H' := Aside0.mk H
            clear H
            have hnb50 := NB395_388.out
            have hnc50 := NB388_395.out
            have hcz51_0 : w45.cell? ⟨gb395, 0, none⟩ = some (.int .i64 t392) := (blk_cell BK395.out 0).trans rfl
            have hcz51_1 : w45.cell? ⟨gb395, 1, none⟩ = some (.int .i64 t393) := (blk_cell BK395.out 1).trans rfl
            have hfz51_0 := blk_frozen BK395.out 0
            have hfz51_1 := blk_frozen BK395.out 1
            go_wp2
            go_meet
            case rel => exact ⟨_, (true), (by first | rfl | (simp; done) | (simp [*]; done)), H', ⟨by have := HJ8.out; first | omega | exact Nat.le_refl _⟩, ⟨by (with_reducible repeat (first | refine blk_drewN ?_ _ | refine blk_drew ?_ | refine blk_alloc ?_ _)); exact BK388.out⟩, ⟨by (with_reducible repeat (first | refine blk_drewN ?_ _ | refine blk_drew ?_ | refine blk_alloc ?_ _)); exact BK395.out⟩, ⟨by repeat (first | (with_reducible first | exact HB.out | apply below_alloc | apply pw_below_drewN | apply below_drew1 | refine below_set ?_ GE388.out | refine below_set ?_ GE395.out) | exact HB.out)⟩⟩
          ·rw [if_neg c49] at H
           have c49b0 : decide (t392 < 0) = false := decide_eq_false c49
           clear c49
           by_cases c52 : t392 ≥ t393
           ·rw [if_pos c52] at H
            have c52b0 : decide (t393 ≤ t392) = true := decide_eq_true c52
            clear c52
            as_aux_lemma =>
             have H' := Aside0.mk H
             clear H
             have hnb53 := NB395_388.out
             have hnc53 := NB388_395.out
             have hcz54_0 : w45.cell? ⟨gb395, 0, none⟩ = some (.int .i64 t392) := (blk_cell BK395.out 0).trans rfl
             have hcz54_1 : w45.cell? ⟨gb395, 1, none⟩ = some (.int .i64 t393) := (blk_cell BK395.out 1).trans rfl
             have hfz54_0 := blk_frozen BK395.out 0
             have hfz54_1 := blk_frozen BK395.out 1
             go_wp2
             go_meet
             case rel => exact ⟨_, (true), (by first | rfl | (simp; done) | (simp [*]; done)), H', ⟨by have := HJ8.out; first | omega | exact Nat.le_refl _⟩, ⟨by (with_reducible repeat (first | refine blk_drewN ?_ _ | refine blk_drew ?_ | refine blk_alloc ?_ _)); exact BK388.out⟩, ⟨by (with_reducible repeat (first | refine blk_drewN ?_ _ | refine blk_drew ?_ | refine blk_alloc ?_ _)); exact BK395.out⟩, ⟨by repeat (first | (with_reducible first | exact HB.out | apply below_alloc | apply pw_below_drewN | apply below_drew1 | refine below_set ?_ GE388.out | refine below_set ?_ GE395.out) | exact HB.out)⟩⟩
           ·rw [if_neg c52] at H
            have c52b0 : decide (t393 ≤ t392) = false := decide_eq_false c52
            clear c52
            as_aux_lemma =>
             have H' := Aside0.mk H
             clear H
             have hnb55 := NB395_388.out
             have hnc55 := NB388_395.out
             have hcz56_0 : w45.cell? ⟨gb395, 0, none⟩ = some (.int .i64 t392) := (blk_cell BK395.out 0).trans rfl
             have hcz56_1 : w45.cell? ⟨gb395, 1, none⟩ = some (.int .i64 t393) := (blk_cell BK395.out 1).trans rfl
             have hfz56_0 := blk_frozen BK395.out 0
             have hfz56_1 := blk_frozen BK395.out 1
             go_wp2
             go_meet
             case rel => exact ⟨_, (decide (t393 > 200)), (by first | rfl | (simp; done) | (simp [*]; done)), H', ⟨by have := HJ8.out; first | omega | exact Nat.le_refl _⟩, ⟨by (with_reducible repeat (first | refine blk_drewN ?_ _ | refine blk_drew ?_ | refine blk_alloc ?_ _)); exact BK388.out⟩, ⟨by (with_reducible repeat (first | refine blk_drewN ?_ _ | refine blk_drew ?_ | refine blk_alloc ?_ _)); exact BK395.out⟩, ⟨by repeat (first | (with_reducible first | exact HB.out | apply below_alloc | apply pw_below_drewN | apply below_drew1 | refine below_set ?_ GE388.out | refine below_set ?_ GE395.out) | exact HB.out)⟩⟩
         ·rw [if_neg c48] at H
          have c48b0 : (t400 == 4) = false := beq_eq_false_iff_ne.mpr c48
          have c48b1 : (t400 != 4) = true := bne_iff_ne.mpr c48
          as_aux_lemma =>
           have H' := Aside0.mk H
           clear H
           go_wp2
           go_meet
           case rel => exact ⟨_, (true), (by first | rfl | (simp; done) | (simp [*]; done)), H', ⟨by have := HJ8.out; first | omega | exact Nat.le_refl _⟩, ⟨by (with_reducible repeat (first | refine blk_drewN ?_ _ | refine blk_drew ?_ | refine blk_alloc ?_ _)); exact BK388.out⟩, ⟨by (with_reducible repeat (first | refine blk_drewN ?_ _ | refine blk_drew ?_ | refine blk_alloc ?_ _)); exact BK395.out⟩, ⟨by repeat (first | (with_reducible first | exact HB.out | apply below_alloc | apply pw_below_drewN | apply below_drew1 | refine below_set ?_ GE388.out | refine below_set ?_ GE395.out) | exact HB.out)⟩⟩
        ·rw [if_neg c47] at H
         have c47b0 : (t408 == 0) = false := beq_eq_false_iff_ne.mpr c47
         have c47b1 : (t408 != 0) = true := bne_iff_ne.mpr c47
         (first | rw [c47b0] | (simp only [i64_w, i32_w]; rw [c47b0]) | skip)
         as_aux_lemma =>
          have H' := Aside0.mk H
          clear H
          go_wp2
          go_meet
          case rel => exact ⟨_, (true), (by first | rfl | (simp; done) | (simp [*]; done)), H', ⟨by have := HJ8.out; first | omega | exact Nat.le_refl _⟩, ⟨by (with_reducible repeat (first | refine blk_drewN ?_ _ | refine blk_drew ?_ | refine blk_alloc ?_ _)); exact BK388.out⟩, ⟨by (with_reducible repeat (first | refine blk_drewN ?_ _ | refine blk_drew ?_ | refine blk_alloc ?_ _)); exact BK395.out⟩, ⟨by repeat (first | (with_reducible first | exact HB.out | apply below_alloc | apply pw_below_drewN | apply below_drew1 | refine below_set ?_ GE388.out | refine below_set ?_ GE395.out) | exact HB.out)⟩⟩
       ·replace c46 := Bool.eq_false_iff.mpr c46
        subst c46
        have H1 : (comfitlaw06_TagsCircles.j1 kj8 l0 a2 a3 t394 t399 t400 true a1_0 a1_1 t392 t393) = some r := by rw [if_neg (show ¬ (false = true) by decide)] at H; exact H
        clear H
        have H := H1
        clear H1
        as_aux_lemma =>
         have H' := Aside0.mk H
         clear H
         go_wp2
         go_meet
         case rel => exact ⟨_, (true), (by first | rfl | (simp; done) | (simp [*]; done)), H', ⟨by have := HJ8.out; first | omega | exact Nat.le_refl _⟩, ⟨by (with_reducible repeat (first | refine blk_drewN ?_ _ | refine blk_drew ?_ | refine blk_alloc ?_ _)); exact BK388.out⟩, ⟨by (with_reducible repeat (first | refine blk_drewN ?_ _ | refine blk_drew ?_ | refine blk_alloc ?_ _)); exact BK395.out⟩, ⟨by repeat (first | (with_reducible first | exact HB.out | apply below_alloc | apply pw_below_drewN | apply below_drew1 | refine below_set ?_ GE388.out | refine below_set ?_ GE395.out) | exact HB.out)⟩⟩
      case rest =>
       clear HC41
       try clear c1
       try clear c2
       try clear p2
       try clear c3
       try clear c4
       try clear c5
       try clear c6
       try clear c11
       try clear c12
       try clear c16
       try clear c17
       try clear c18
       try clear c25
       try clear c28
       try clear c32
       try clear c33
       try clear c33b0
       try clear c33b1
       try clear c34
       try clear c34b0
       try clear c34b1
       try clear c38
       try clear c38b0
       try clear c38b1
       try clear c46
       try clear c47
       try clear c47b0
       try clear c47b1
       try clear c48
       try clear c48b0
       try clear c48b1
       try clear c49
       try clear c49b0
       try clear c50
       try clear c52
       try clear c52b0
       try clear c53
       try clear c55
       try clear hcz29_0
       try clear hcz29_1
       try clear hcz51_0
       try clear hcz51_1
       try clear hcz54_0
       try clear hcz54_1
       try clear hcz56_0
       try clear hcz56_1
       try clear hfz29_0
       try clear hfz29_1
       try clear hfz51_0
       try clear hfz51_1
       try clear hfz54_0
       try clear hfz54_1
       try clear hfz56_0
       try clear hfz56_1
       try clear p2
       obtain ⟨kq, x93_40, rfl, HA, HJ40, BK388, BK395, HB⟩ := hcut
       cases kq with
       | zero => exact absurd HA.out (by simp [comfitlaw06_TagsCircles.j1])
       | succ kj40 =>
        have H := HA.out
        clear HA
        simp only [comfitlaw06_TagsCircles.j1] at H
        by_cases c57 : x93_40 = true
        ·subst c57
         have H1 : (none) = some r := by rw [if_pos rfl] at H; exact H
         clear H
         have H := H1
         clear H1
         exact absurd H (by simp)
        ·replace c57 := Bool.eq_false_iff.mpr c57
         subst c57
         have H1 : (comfitlaw06_TagsCircles.j2 kj40 l0 a2 a3 t394 t399 t400 a1_0 a1_1 t392 t393) = some r := by rw [if_neg (show ¬ (false = true) by decide)] at H; exact H
         clear H
         have H := H1
         clear H1
         as_aux_lemma =>
          have H' := Aside0.mk H
          clear H
          go_wp2
          go_meet
          case rel => exact ⟨_, H', ⟨by have := HJ8.out; have := HJ40.out; first | omega | exact Nat.le_refl _⟩, ⟨by (with_reducible repeat (first | refine blk_drewN ?_ _ | refine blk_drew ?_ | refine blk_alloc ?_ _)); exact BK388.out⟩, ⟨by (with_reducible repeat (first | refine blk_drewN ?_ _ | refine blk_drew ?_ | refine blk_alloc ?_ _)); exact BK395.out⟩, ⟨by repeat (first | (with_reducible first | exact HB.out | apply below_alloc | apply pw_below_drewN | apply below_drew1 | refine below_set ?_ GE388.out | refine below_set ?_ GE395.out) | exact HB.out)⟩⟩
     ·rw [if_neg c38] at H
      have c38b0 : (t394 == 0) = false := beq_eq_false_iff_ne.mpr c38
      have c38b1 : (t394 != 0) = true := bne_iff_ne.mpr c38
      (first | rw [c38b0] | (simp only [i64_w, i32_w]; rw [c38b0]) | skip)
      by_cases c58 : t394 = 4
      ·rw [if_pos c58] at H
       have c58b0 : (t394 == 4) = true := beq_iff_eq.mpr c58
       have c58b1 : (t394 != 4) = false := bne_eq_false_iff_eq.mpr c58
       clear c58
       as_aux_lemma =>
        have H' := Aside0.mk H
        clear H
        go_wp2
        go_meet
        case rel => exact ⟨_, H', ⟨by have := HJ8.out; first | omega | exact Nat.le_refl _⟩, ⟨by (with_reducible repeat (first | refine blk_drewN ?_ _ | refine blk_drew ?_ | refine blk_alloc ?_ _)); exact BK388.out⟩, ⟨by (with_reducible repeat (first | refine blk_drewN ?_ _ | refine blk_drew ?_ | refine blk_alloc ?_ _)); exact BK395.out⟩, ⟨by repeat (first | (with_reducible first | exact HB.out | apply below_alloc | apply pw_below_drewN | apply below_drew1 | refine below_set ?_ GE388.out | refine below_set ?_ GE395.out) | exact HB.out)⟩⟩
      ·rw [if_neg c58] at H
       exact absurd H (by simp)
    case rest =>
     clear HC37
     try clear c1
     try clear c2
     try clear p2
     try clear c3
     try clear c4
     try clear c5
     try clear c6
     try clear c11
     try clear c12
     try clear c16
     try clear c17
     try clear c18
     try clear c25
     try clear c28
     try clear c32
     try clear c33
     try clear c33b0
     try clear c33b1
     try clear c34
     try clear c34b0
     try clear c34b1
     try clear c38
     try clear c38b0
     try clear c38b1
     try clear c46
     try clear c47
     try clear c47b0
     try clear c47b1
     try clear c48
     try clear c48b0
     try clear c48b1
     try clear c49
     try clear c49b0
     try clear c50
     try clear c52
     try clear c52b0
     try clear c53
     try clear c55
     try clear c57
     try clear c58
     try clear c58b0
     try clear c58b1
     try clear hcz29_0
     try clear hcz29_1
     try clear hcz51_0
     try clear hcz51_1
     try clear hcz54_0
     try clear hcz54_1
     try clear hcz56_0
     try clear hcz56_1
     try clear hfz29_0
     try clear hfz29_1
     try clear hfz51_0
     try clear hfz51_1
     try clear hfz54_0
     try clear hfz54_1
     try clear hfz56_0
     try clear hfz56_1
     try clear p2
     obtain ⟨kq, HA, HJ36, BK388, BK395, HB⟩ := hcut
     cases kq with
     | zero => exact absurd HA.out (by simp [comfitlaw06_TagsCircles.j2])
     | succ kj36 =>
      have H := HA.out
      clear HA
      simp only [comfitlaw06_TagsCircles.j2] at H
      have HC59 := Aside0.mk H
      clear H
      go_upto_region 11 with (fail)
      go_cut [121] (fun v121 wc => ∃ (kq : Nat) (x121_58 : Bool), v121 = .bool x121_58 ∧ Aside0 (comfitlaw06_TagsCircles.j3 kq l0 a2 a3 t394 t400 x121_58 a1_0 a1_1 t392 t393 = some r) ∧ Aside0 (kq ≤ kj36) ∧ Aside0 (wc.heap[gb388]? = some (.cells #[.int .i64 a1_0, .int .i64 a1_1] 23 (0, 0))) ∧ Aside0 (wc.heap[gb395]? = some (.cells #[.int .i64 t392, .int .i64 t393] 23 (0, 0))) ∧ Aside0 (Below w.heap.size w wc))
      case first =>
       have H := HC59.out
       clear HC59
       by_cases c60 : t400 = 0
       ·rw [if_pos c60] at H
        have c60b0 : (t400 == 0) = true := beq_iff_eq.mpr c60
        have c60b1 : (t400 != 0) = false := bne_eq_false_iff_eq.mpr c60
        clear c60
        (first | rw [c60b0] | (simp only [i64_w, i32_w]; rw [c60b0]) | skip)
        by_cases c61 : t399 < 0
        ·rw [if_pos c61] at H
         have c61b0 : decide (t399 < 0) = true := decide_eq_true c61
         clear c61
         as_aux_lemma =>
          have H' := Aside0.mk H
          clear H
          go_wp2
          go_meet
          case rel => exact ⟨_, (true), (by first | rfl | (simp; done) | (simp [*]; done)), H', ⟨by have := HJ8.out; have := HJ36.out; first | omega | exact Nat.le_refl _⟩, ⟨by (with_reducible repeat (first | refine blk_drewN ?_ _ | refine blk_drew ?_ | refine blk_alloc ?_ _)); exact BK388.out⟩, ⟨by (with_reducible repeat (first | refine blk_drewN ?_ _ | refine blk_drew ?_ | refine blk_alloc ?_ _)); exact BK395.out⟩, ⟨by repeat (first | (with_reducible first | exact HB.out | apply below_alloc | apply pw_below_drewN | apply below_drew1 | refine below_set ?_ GE388.out | refine below_set ?_ GE395.out) | exact HB.out)⟩⟩
        ·rw [if_neg c61] at H
         have c61b0 : decide (t399 < 0) = false := decide_eq_false c61
         clear c61
         by_cases c62 : t399 > 1000
         ·rw [if_pos c62] at H
          have c62b0 : decide (1000 < t399) = true := decide_eq_true c62
          clear c62
          as_aux_lemma =>
           have H' := Aside0.mk H
           clear H
           go_wp2
           go_meet
           case rel => exact ⟨_, (true), (by first | rfl | (simp; done) | (simp [*]; done)), H', ⟨by have := HJ8.out; have := HJ36.out; first | omega | exact Nat.le_refl _⟩, ⟨by (with_reducible repeat (first | refine blk_drewN ?_ _ | refine blk_drew ?_ | refine blk_alloc ?_ _)); exact BK388.out⟩, ⟨by (with_reducible repeat (first | refine blk_drewN ?_ _ | refine blk_drew ?_ | refine blk_alloc ?_ _)); exact BK395.out⟩, ⟨by repeat (first | (with_reducible first | exact HB.out | apply below_alloc | apply pw_below_drewN | apply below_drew1 | refine below_set ?_ GE388.out | refine below_set ?_ GE395.out) | exact HB.out)⟩⟩
         ·rw [if_neg c62] at H
          have c62b0 : decide (1000 < t399) = false := decide_eq_false c62
          clear c62
          by_cases c63 : t399 ≤ 200
          ·rw [if_pos c63] at H
           have c63b0 : decide (t399 ≤ 200) = true := decide_eq_true c63
           clear c63
           by_cases c64 : t394 = 4
           ·rw [if_pos c64] at H
            have c64b0 : (t394 == 4) = true := beq_iff_eq.mpr c64
            have c64b1 : (t394 != 4) = false := bne_eq_false_iff_eq.mpr c64
            clear c64
            as_aux_lemma =>
             have H' := Aside0.mk H
             clear H
             go_wp2
             go_meet
             case rel => exact ⟨_, (false), (by first | rfl | (simp; done) | (simp [*]; done)), H', ⟨by have := HJ8.out; have := HJ36.out; first | omega | exact Nat.le_refl _⟩, ⟨by (with_reducible repeat (first | refine blk_drewN ?_ _ | refine blk_drew ?_ | refine blk_alloc ?_ _)); exact BK388.out⟩, ⟨by (with_reducible repeat (first | refine blk_drewN ?_ _ | refine blk_drew ?_ | refine blk_alloc ?_ _)); exact BK395.out⟩, ⟨by repeat (first | (with_reducible first | exact HB.out | apply below_alloc | apply pw_below_drewN | apply below_drew1 | refine below_set ?_ GE388.out | refine below_set ?_ GE395.out) | exact HB.out)⟩⟩
           ·rw [if_neg c64] at H
            have c64b0 : (t394 == 4) = false := beq_eq_false_iff_ne.mpr c64
            have c64b1 : (t394 != 4) = true := bne_iff_ne.mpr c64
            as_aux_lemma =>
             have H' := Aside0.mk H
             clear H
             go_wp2
             go_meet
             case rel => exact ⟨_, (true), (by first | rfl | (simp; done) | (simp [*]; done)), H', ⟨by have := HJ8.out; have := HJ36.out; first | omega | exact Nat.le_refl _⟩, ⟨by (with_reducible repeat (first | refine blk_drewN ?_ _ | refine blk_drew ?_ | refine blk_alloc ?_ _)); exact BK388.out⟩, ⟨by (with_reducible repeat (first | refine blk_drewN ?_ _ | refine blk_drew ?_ | refine blk_alloc ?_ _)); exact BK395.out⟩, ⟨by repeat (first | (with_reducible first | exact HB.out | apply below_alloc | apply pw_below_drewN | apply below_drew1 | refine below_set ?_ GE388.out | refine below_set ?_ GE395.out) | exact HB.out)⟩⟩
          ·rw [if_neg c63] at H
           have c63b0 : decide (t399 ≤ 200) = false := decide_eq_false c63
           clear c63
           as_aux_lemma =>
            have H' := Aside0.mk H
            clear H
            go_wp2
            go_meet
            case rel => exact ⟨_, (false), (by first | rfl | (simp; done) | (simp [*]; done)), H', ⟨by have := HJ8.out; have := HJ36.out; first | omega | exact Nat.le_refl _⟩, ⟨by (with_reducible repeat (first | refine blk_drewN ?_ _ | refine blk_drew ?_ | refine blk_alloc ?_ _)); exact BK388.out⟩, ⟨by (with_reducible repeat (first | refine blk_drewN ?_ _ | refine blk_drew ?_ | refine blk_alloc ?_ _)); exact BK395.out⟩, ⟨by repeat (first | (with_reducible first | exact HB.out | apply below_alloc | apply pw_below_drewN | apply below_drew1 | refine below_set ?_ GE388.out | refine below_set ?_ GE395.out) | exact HB.out)⟩⟩
       ·rw [if_neg c60] at H
        have c60b0 : (t400 == 0) = false := beq_eq_false_iff_ne.mpr c60
        have c60b1 : (t400 != 0) = true := bne_iff_ne.mpr c60
        (first | rw [c60b0] | (simp only [i64_w, i32_w]; rw [c60b0]) | skip)
        as_aux_lemma =>
         have H' := Aside0.mk H
         clear H
         go_wp2
         go_meet
         case rel => exact ⟨_, ((t400 != 4)), (by first | rfl | (simp; done) | (simp [*]; done)), H', ⟨by have := HJ8.out; have := HJ36.out; first | omega | exact Nat.le_refl _⟩, ⟨by (with_reducible repeat (first | refine blk_drewN ?_ _ | refine blk_drew ?_ | refine blk_alloc ?_ _)); exact BK388.out⟩, ⟨by (with_reducible repeat (first | refine blk_drewN ?_ _ | refine blk_drew ?_ | refine blk_alloc ?_ _)); exact BK395.out⟩, ⟨by repeat (first | (with_reducible first | exact HB.out | apply below_alloc | apply pw_below_drewN | apply below_drew1 | refine below_set ?_ GE388.out | refine below_set ?_ GE395.out) | exact HB.out)⟩⟩
      case rest =>
       clear HC59
       try clear c1
       try clear c2
       try clear p2
       try clear c3
       try clear c4
       try clear c5
       try clear c6
       try clear c11
       try clear c12
       try clear c16
       try clear c17
       try clear c18
       try clear c25
       try clear c28
       try clear c32
       try clear c33
       try clear c33b0
       try clear c33b1
       try clear c34
       try clear c34b0
       try clear c34b1
       try clear c38
       try clear c38b0
       try clear c38b1
       try clear c46
       try clear c47
       try clear c47b0
       try clear c47b1
       try clear c48
       try clear c48b0
       try clear c48b1
       try clear c49
       try clear c49b0
       try clear c50
       try clear c52
       try clear c52b0
       try clear c53
       try clear c55
       try clear c57
       try clear c58
       try clear c58b0
       try clear c58b1
       try clear c60
       try clear c60b0
       try clear c60b1
       try clear c61
       try clear c61b0
       try clear c62
       try clear c62b0
       try clear c63
       try clear c63b0
       try clear c64
       try clear c64b0
       try clear c64b1
       try clear hcz29_0
       try clear hcz29_1
       try clear hcz51_0
       try clear hcz51_1
       try clear hcz54_0
       try clear hcz54_1
       try clear hcz56_0
       try clear hcz56_1
       try clear hfz29_0
       try clear hfz29_1
       try clear hfz51_0
       try clear hfz51_1
       try clear hfz54_0
       try clear hfz54_1
       try clear hfz56_0
       try clear hfz56_1
       try clear p2
       obtain ⟨kq, x121_58, rfl, HA, HJ58, BK388, BK395, HB⟩ := hcut
       cases kq with
       | zero => exact absurd HA.out (by simp [comfitlaw06_TagsCircles.j3])
       | succ kj58 =>
        have H := HA.out
        clear HA
        simp only [comfitlaw06_TagsCircles.j3] at H
        by_cases c65 : x121_58 = true
        ·subst c65
         have H1 : (none) = some r := by rw [if_pos rfl] at H; exact H
         clear H
         have H := H1
         clear H1
         exact absurd H (by simp)
        ·replace c65 := Bool.eq_false_iff.mpr c65
         subst c65
         have H1 : (if (wrap64 (Int.tmod (IntKind.u64.wrap (a2)) 201)) ≥ (wrap64 (Int.tmod (IntKind.u64.wrap (a3)) 201)) then ((comfitlaw06_awake.f kj58).bind fun t409 => (some t409)) else ((comfitlaw06_Of.f kj58 l0).bind fun t410 => ((tags_Go.f kj58 t410 a1_0 a1_1 (wrap64 (Int.tmod (IntKind.u64.wrap (a2)) 201))).bind fun bt413 => ((comfitlaw06_Of.f kj58 l0).bind fun t419 => ((tags_Go.f kj58 t419 a1_0 a1_1 (wrap64 (Int.tmod (IntKind.u64.wrap (a3)) 201))).bind fun bt422 => (if bt413.2.2.2.2 = 0 then (comfitlaw06_TagsCircles.j4 kj58 l0 (wrap64 (Int.tmod (IntKind.u64.wrap (a2)) 201)) (wrap64 (Int.tmod (IntKind.u64.wrap (a3)) 201)) t394 t400 bt413.1 bt413.2.2.2.1 bt422.1 bt422.2.2.2.1 (bt422.2.2.2.2 != 0) a1_0 a1_1 t392 t393 bt413.2.1 bt413.2.2.1 bt422.2.1 bt422.2.2.1) else (comfitlaw06_TagsCircles.j4 kj58 l0 (wrap64 (Int.tmod (IntKind.u64.wrap (a2)) 201)) (wrap64 (Int.tmod (IntKind.u64.wrap (a3)) 201)) t394 t400 bt413.1 bt413.2.2.2.1 bt422.1 bt422.2.2.2.1 true a1_0 a1_1 t392 t393 bt413.2.1 bt413.2.2.1 bt422.2.1 bt422.2.2.1))))))) = some r := by rw [if_neg (show ¬ (false = true) by decide)] at H; exact H
         clear H
         have H := H1
         clear H1
         by_cases c66 : (wrap64 (Int.tmod (IntKind.u64.wrap (a2)) 201)) ≥ (wrap64 (Int.tmod (IntKind.u64.wrap (a3)) 201))
         ·rw [if_pos c66] at H
          have c66b0 : decide ((wrap64 (Int.tmod (IntKind.u64.wrap (a3)) 201)) ≤ (wrap64 (Int.tmod (IntKind.u64.wrap (a2)) 201))) = true := decide_eq_true c66
          clear c66
          replace H := Option.bind_eq_some_iff.mp H
          obtain ⟨t409, A670, H⟩ := H
          replace H : (some t409) = some r := H
          have A67 := Aside0.mk A670
          clear A670
          as_aux_lemma =>
           obtain rfl := Option.some.inj H
           go_wp2_with (first | ((with_reducible refine gate_callee (f := 14) rfl ?_); refine goesL_ (some 133) rfl rfl Try.func14 (by kernel_rfl) rfl #[] rfl al_ ?_; (with_reducible refine (comfitlaw06_awake.calls kj58  t409 _ A67.out).mono ?_); rintro e w68 ⟨rfl, hb⟩; refine ⟨_, rfl, ?_⟩; have n0_ := Aside0.mk (bkb_ BK388.out hb); have n1_ := Aside0.mk (bkb_ BK395.out hb); have n2_ := Aside0.mk (below_step (hb_ HB.out) hb); clear BK388; clear BK395; clear HB; have BK388 := n0_; have BK395 := n1_; have HB := n2_; clear n0_ n1_ n2_; (try clear hb); (try clear hb2); (try clear hk); (try clear hi)))
           go_ret
           exact ⟨by first | rfl | (simp [errW_none, errW_some] <;> rfl) | (simp [*, errW_none, errW_some] <;> rfl), by repeat (first | (with_reducible first | exact HB.out | apply below_alloc | apply pw_below_drewN | apply below_drew1 | refine below_set ?_ GE388.out | refine below_set ?_ GE395.out) | exact HB.out)⟩
         ·rw [if_neg c66] at H
          have c66b0 : decide ((wrap64 (Int.tmod (IntKind.u64.wrap (a3)) 201)) ≤ (wrap64 (Int.tmod (IntKind.u64.wrap (a2)) 201))) = false := decide_eq_false c66
          clear c66
          replace H := Option.bind_eq_some_iff.mp H
          obtain ⟨t410, A690, H⟩ := H
          replace H : ((tags_Go.f kj58 t410 a1_0 a1_1 (wrap64 (Int.tmod (IntKind.u64.wrap (a2)) 201))).bind fun bt413 => ((comfitlaw06_Of.f kj58 l0).bind fun t419 => ((tags_Go.f kj58 t419 a1_0 a1_1 (wrap64 (Int.tmod (IntKind.u64.wrap (a3)) 201))).bind fun bt422 => (if bt413.2.2.2.2 = 0 then (comfitlaw06_TagsCircles.j4 kj58 l0 (wrap64 (Int.tmod (IntKind.u64.wrap (a2)) 201)) (wrap64 (Int.tmod (IntKind.u64.wrap (a3)) 201)) t394 t400 bt413.1 bt413.2.2.2.1 bt422.1 bt422.2.2.2.1 (bt422.2.2.2.2 != 0) a1_0 a1_1 t392 t393 bt413.2.1 bt413.2.2.1 bt422.2.1 bt422.2.2.1) else (comfitlaw06_TagsCircles.j4 kj58 l0 (wrap64 (Int.tmod (IntKind.u64.wrap (a2)) 201)) (wrap64 (Int.tmod (IntKind.u64.wrap (a3)) 201)) t394 t400 bt413.1 bt413.2.2.2.1 bt422.1 bt422.2.2.2.1 true a1_0 a1_1 t392 t393 bt413.2.1 bt413.2.2.1 bt422.2.1 bt422.2.2.1))))) = some r := H
          have A69 := Aside0.mk A690
          clear A690
          replace H := Option.bind_eq_some_iff.mp H
          obtain ⟨⟨t413, t414, t415, t416, t417⟩, A700, H⟩ := H
          replace H : ((comfitlaw06_Of.f kj58 l0).bind fun t419 => ((tags_Go.f kj58 t419 a1_0 a1_1 (wrap64 (Int.tmod (IntKind.u64.wrap (a3)) 201))).bind fun bt422 => (if t417 = 0 then (comfitlaw06_TagsCircles.j4 kj58 l0 (wrap64 (Int.tmod (IntKind.u64.wrap (a2)) 201)) (wrap64 (Int.tmod (IntKind.u64.wrap (a3)) 201)) t394 t400 t413 t416 bt422.1 bt422.2.2.2.1 (bt422.2.2.2.2 != 0) a1_0 a1_1 t392 t393 t414 t415 bt422.2.1 bt422.2.2.1) else (comfitlaw06_TagsCircles.j4 kj58 l0 (wrap64 (Int.tmod (IntKind.u64.wrap (a2)) 201)) (wrap64 (Int.tmod (IntKind.u64.wrap (a3)) 201)) t394 t400 t413 t416 bt422.1 bt422.2.2.2.1 true a1_0 a1_1 t392 t393 t414 t415 bt422.2.1 bt422.2.2.1)))) = some r := H
          have A70 := Aside0.mk A700
          clear A700
          replace H := Option.bind_eq_some_iff.mp H
          obtain ⟨t419, A710, H⟩ := H
          replace H : ((tags_Go.f kj58 t419 a1_0 a1_1 (wrap64 (Int.tmod (IntKind.u64.wrap (a3)) 201))).bind fun bt422 => (if t417 = 0 then (comfitlaw06_TagsCircles.j4 kj58 l0 (wrap64 (Int.tmod (IntKind.u64.wrap (a2)) 201)) (wrap64 (Int.tmod (IntKind.u64.wrap (a3)) 201)) t394 t400 t413 t416 bt422.1 bt422.2.2.2.1 (bt422.2.2.2.2 != 0) a1_0 a1_1 t392 t393 t414 t415 bt422.2.1 bt422.2.2.1) else (comfitlaw06_TagsCircles.j4 kj58 l0 (wrap64 (Int.tmod (IntKind.u64.wrap (a2)) 201)) (wrap64 (Int.tmod (IntKind.u64.wrap (a3)) 201)) t394 t400 t413 t416 bt422.1 bt422.2.2.2.1 true a1_0 a1_1 t392 t393 t414 t415 bt422.2.1 bt422.2.2.1))) = some r := H
          have A71 := Aside0.mk A710
          clear A710
          replace H := Option.bind_eq_some_iff.mp H
          obtain ⟨⟨t422, t423, t424, t425, t426⟩, A720, H⟩ := H
          replace H : (if t417 = 0 then (comfitlaw06_TagsCircles.j4 kj58 l0 (wrap64 (Int.tmod (IntKind.u64.wrap (a2)) 201)) (wrap64 (Int.tmod (IntKind.u64.wrap (a3)) 201)) t394 t400 t413 t416 t422 t425 (t426 != 0) a1_0 a1_1 t392 t393 t414 t415 t423 t424) else (comfitlaw06_TagsCircles.j4 kj58 l0 (wrap64 (Int.tmod (IntKind.u64.wrap (a2)) 201)) (wrap64 (Int.tmod (IntKind.u64.wrap (a3)) 201)) t394 t400 t413 t416 t422 t425 true a1_0 a1_1 t392 t393 t414 t415 t423 t424)) = some r := H
          have A72 := Aside0.mk A720
          clear A720
          have HC73 := Aside0.mk H
          clear H
          try go_wp2
          have n0_ := Aside0.mk (blk_drew BK388.out)
          have n1_ := Aside0.mk (blk_drew BK395.out)
          have n2_ := Aside0.mk (below_drew1 HB.out)
          clear BK388
          clear BK395
          clear HB
          have BK388 := n0_
          have BK395 := n1_
          have HB := n2_
          clear n0_ n1_ n2_
          refine start_ (n := 15) (S := fun w' => w'.cell? ⟨gb388, 0, none⟩ = some (.int .i64 a1_0) ∧ w'.cell? ⟨gb388, 1, none⟩ = some (.int .i64 a1_1)) (ds := []) #[false, false, false, false, false, false, false, false, false, false, false, false, false, false, false] (by kernel_rfl) rfl rfl ⟨(blk_cell BK388.out 0).trans rfl, (blk_cell BK388.out 1).trans rfl⟩ (fun hHeld => ?_); refine with_tabW comfitlaw06_TagsCircles.tab16 comfitlaw06_TagsCircles.bits16 (fun HT_ HW_ => ?_)
          generalize wc.drew = w74 at BK388 BK395 HB hHeld ⊢
          refine pure_ (i := 0) (N := some 135) (v := ?_) (a' := ?_) #[true, false, false, false, false, false, false, false, false, false, false, false, false, false, false] rfl rfl (any_of HT_.out (by kernel_rfl)) (fun _ _ _ h => h) (Or.inl ⟨by rfl, ?_⟩) ?_ ?_
          rotate_left
          ·intro w'
           go_simp
           with_reducible rfl
          rotate_left
          ·simp only [Act.put, List.setIfInBounds_toArray, List.set_cons_zero, List.set_cons_succ, i64_w, i32_w]
           rfl
          refine pure_ (i := 3) (N := some 138) (v := ?_) (a' := ?_) #[true, false, false, true, false, false, false, false, false, false, false, false, false, false, false] rfl rfl (any_of HT_.out (by kernel_rfl)) (fun _ _ _ h => h) (Or.inl ⟨by rfl, ?_⟩) ?_ ?_
          rotate_left
          ·intro w'
           go_simp
           with_reducible rfl
          rotate_left
          ·simp only [Act.put, List.setIfInBounds_toArray, List.set_cons_zero, List.set_cons_succ, i64_w, i32_w]
           rfl
          refine take_ (i := 2) (N := some 137) (v := ?_) (a' := ?_) #[true, false, true, true, false, false, false, false, false, false, false, false, false, false, false] rfl rfl (take_ofW HT_.out HW_.out (by kernel_rfl)) (fun _ _ _ h => h) (Or.inl ⟨by rfl, ?_⟩) hHeld ?_ ?_
          rotate_left
          ·rintro w' ⟨s0, s1⟩
           go_simp
           with_reducible rfl
          rotate_left
          ·simp only [Act.put, List.setIfInBounds_toArray, List.set_cons_zero, List.set_cons_succ, i64_w, i32_w]
           rfl
          refine join_ (σ := Value × Nat) 4 #[true, true, true, true, true, true, true, true, true, true, true, false, false, false, false] (fun s_ => [(136, s_.1), (139, .tuple #[.int .i64 t413, .agg #[.int .i64 t414, .int .i64 t415], .int .i64 t416, .int .i64 t417]), (16, .pointer (some ⟨s_.2, 0, none⟩)), (134, .tuple #[.int .i64 t413, .agg #[.int .i64 t414, .int .i64 t415], .int .i64 t416, .int .i64 t417]), (140, .int .i64 t413), (141, .agg #[.int .i64 t414, .int .i64 t415]), (142, .int .i64 t416), (143, .int .i64 t417)]) (fun s_ w' => (w'.cell? ⟨gb388, 0, none⟩ = some (.int .i64 a1_0) ∧ w'.cell? ⟨gb388, 1, none⟩ = some (.int .i64 a1_1)) ∧ (Kd.R k57 57 w' w.heap.size (fun _ => True) s_.1 t410) ∧ (w'.heap[gb388]? = some (.cells #[.int .i64 a1_0, .int .i64 a1_1] 23 (0, 0))) ∧ (w'.heap[gb395]? = some (.cells #[.int .i64 t392, .int .i64 t393] 23 (0, 0))) ∧ (w'.heap[s_.2]? = some (.cells #[.int .i64 0, .int .i64 0] 23 (0, 0))) ∧ (w.heap.size ≤ s_.2) ∧ (w.heap.size ≤ s_.2) ∧ (gb388 ≠ s_.2) ∧ (s_.2 ≠ gb388) ∧ (gb395 ≠ s_.2) ∧ (s_.2 ≠ gb395) ∧ (Below w.heap.size w w')) ?_ ?_
          rotate_left
          ·intro hCont
           refine two_ (i := 1) (j := 10) (Ni := some 136) (Nj := some 16) #[true, true, true, true, false, false, false, false, false, false, false, false, false, false, false] #[true, false, true, true, false, false, false, false, false, false, true, false, false, false, false] rfl rfl rfl rfl (two_of HT_.out (by kernel_rfl)) (by decide) (by decide) (fun K hK => ?_) (fun K hK => ?_)
           ·skip
            refine goes_ Try.func11 (by kernel_rfl) rfl #[.slice A0 l0.length c0] (by rfl) rfl rfl al_ ?_
            with_reducible refine (comfitlaw06_Of.calls kj58 _ _ l0 t410 _ ?side1 ?side2 A69.out).mono ?_
            (case side1 => exact kc_ (Kd.C_below HR0.out HB.out))
            (case side2 => exact HC0.out)
            rintro e w75 ⟨v411, rfl, ho0, hb⟩
            refine ⟨_, rfl, ?_⟩
            have n0_ := Aside0.mk (Kd.R_lower ho0 (below_size (hb_ HB.out)))
            have n1_ := Aside0.mk (bkb_ BK388.out hb)
            have n2_ := Aside0.mk (bkb_ BK395.out hb)
            have n3_ := Aside0.mk (below_step (hb_ HB.out) hb)
            clear BK388
            clear BK395
            clear HB
            have HO412 := n0_
            have BK388 := n1_
            have BK395 := n2_
            have HB := n3_
            clear n0_ n1_ n2_ n3_
            (try clear hb)
            (try clear hb2)
            (try clear hk)
            (try clear hi)
            (try clear ho0)
            obtain ⟨Ao76, co76, eo76⟩ := Kd.R_slice HO412.out
            (first | subst eo76 | (injection eo76 with f1_ f2_ f3_; have f4_ := f1_.symm; have f5_ := f3_.symm; clear f1_ f2_ f3_; subst f4_; subst f5_))
            refine hK.out _ _ ⟨(blk_cell BK388.out 0).trans rfl, (blk_cell BK388.out 1).trans rfl⟩ (fun hHeld => ?_)
            clear hK K
            refine norm_ (a' := ?_) ?_ ?_
            rotate_left
            ·show Act.put _ (some 136) _ = _
             simp only [Act.put, List.setIfInBounds_toArray, List.set_cons_zero, List.set_cons_succ, i64_w, i32_w]
             rfl
            refine two_ (i := 4) (j := 10) (Ni := some 139) (Nj := some 16) #[true, true, true, true, true, false, false, false, false, false, false, false, false, false, false] #[true, true, true, true, false, false, false, false, false, false, true, false, false, false, false] rfl rfl rfl rfl (two_of HT_.out (by kernel_rfl)) (by decide) (by decide) (fun K hK => ?_) (fun K hK => ?_)
            ·skip
             refine goes_ Try.func10 (by kernel_rfl) rfl #[.slice Ao76 t410.length co76, .agg #[.int .i64 a1_0, .int .i64 a1_1], .int .i64 (wrap64 (Int.tmod (IntKind.u64.wrap (a2)) 201))] (by rfl) rfl rfl al_ ?_
             with_reducible refine (tags_Go.calls kj58 _ _ t410 a1_0 a1_1 (wrap64 (Int.tmod (IntKind.u64.wrap (a2)) 201)) t413 t414 t415 t416 t417 _ ?side1 ?side2 A70.out).mono ?_
             (case side1 => exact kc_ (Kd.R_reads' HO412.out).2.2)
             (case side2 => exact (Kd.R_reads' HO412.out).2.1)
             rintro e w77 ⟨rfl, hb⟩
             refine ⟨_, rfl, ?_⟩
             have n0_ := Aside0.mk (Kd.R_below (kr_ (HO412.out)) hb)
             have n1_ := Aside0.mk (bkb_ BK388.out hb)
             have n2_ := Aside0.mk (bkb_ BK395.out hb)
             have n3_ := Aside0.mk (below_step (hb_ HB.out) hb)
             clear HO412
             clear BK388
             clear BK395
             clear HB
             have HO412 := n0_
             have BK388 := n1_
             have BK395 := n2_
             have HB := n3_
             clear n0_ n1_ n2_ n3_
             (try clear hb)
             (try clear hb2)
             (try clear hk)
             (try clear hi)
             refine hK.out _ _ ⟨(blk_cell BK388.out 0).trans rfl, (blk_cell BK388.out 1).trans rfl⟩ (fun hHeld => ?_)
             clear hK K
             refine norm_ (a' := ?_) ?_ ?_
             rotate_left
             ·show Act.put _ (some 139) _ = _
              simp only [Act.put, List.setIfInBounds_toArray, List.set_cons_zero, List.set_cons_succ, i64_w, i32_w]
              rfl
             refine pure_ (i := 5) (N := some 134) (v := ?_) (a' := ?_) #[true, true, true, true, true, true, false, false, false, false, false, false, false, false, false] rfl rfl (any_of HT_.out (by kernel_rfl)) (fun _ _ _ h => h) (Or.inl ⟨by rfl, ?_⟩) ?_ ?_
             rotate_left
             ·intro w'
              go_simp
              with_reducible rfl
             rotate_left
             ·simp only [Act.put, List.setIfInBounds_toArray, List.set_cons_zero, List.set_cons_succ, i64_w, i32_w]
              rfl
             refine pure_ (i := 6) (N := some 140) (v := ?_) (a' := ?_) #[true, true, true, true, true, true, true, false, false, false, false, false, false, false, false] rfl rfl (any_of HT_.out (by kernel_rfl)) (fun _ _ _ h => h) (Or.inl ⟨by rfl, ?_⟩) ?_ ?_
             rotate_left
             ·intro w'
              go_simp
              with_reducible rfl
             rotate_left
             ·simp only [Act.put, List.setIfInBounds_toArray, List.set_cons_zero, List.set_cons_succ, i64_w, i32_w]
              rfl
             refine pure_ (i := 7) (N := some 141) (v := ?_) (a' := ?_) #[true, true, true, true, true, true, true, true, false, false, false, false, false, false, false] rfl rfl (any_of HT_.out (by kernel_rfl)) (fun _ _ _ h => h) (Or.inl ⟨by rfl, ?_⟩) ?_ ?_
             rotate_left
             ·intro w'
              go_simp
              with_reducible rfl
             rotate_left
             ·simp only [Act.put, List.setIfInBounds_toArray, List.set_cons_zero, List.set_cons_succ, i64_w, i32_w]
              rfl
             refine pure_ (i := 8) (N := some 142) (v := ?_) (a' := ?_) #[true, true, true, true, true, true, true, true, true, false, false, false, false, false, false] rfl rfl (any_of HT_.out (by kernel_rfl)) (fun _ _ _ h => h) (Or.inl ⟨by rfl, ?_⟩) ?_ ?_
             rotate_left
             ·intro w'
              go_simp
              with_reducible rfl
             rotate_left
             ·simp only [Act.put, List.setIfInBounds_toArray, List.set_cons_zero, List.set_cons_succ, i64_w, i32_w]
              rfl
             refine pure_ (i := 9) (N := some 143) (v := ?_) (a' := ?_) #[true, true, true, true, true, true, true, true, true, true, false, false, false, false, false] rfl rfl (any_of HT_.out (by kernel_rfl)) (fun _ _ _ h => h) (Or.inl ⟨by rfl, ?_⟩) ?_ ?_
             rotate_left
             ·intro w'
              go_simp
              with_reducible rfl
             rotate_left
             ·simp only [Act.put, List.setIfInBounds_toArray, List.set_cons_zero, List.set_cons_succ, i64_w, i32_w]
              rfl
             refine one_ (i := 10) (N := some 16) #[true, true, true, true, true, true, true, true, true, true, true, false, false, false, false] rfl rfl (one_of HT_.out (by kernel_rfl)) (by decide) (fun K hK => ?_)
             refine box_step ?hg (N := 16) ?hd (cs := #[.int .i64 0, .int .i64 0]) (t := 23) ?hr ?_; (case hd => rfl); (case hg => rfl); (case hr => first | (go_simp; done) | (go_simp; rfl))
             intro gb418 hg w78 hbox hb
             have n0_ := Aside0.mk (Kd.R_below (kr_ (HO412.out)) hb)
             have n1_ := Aside0.mk (bkb_ BK388.out hb)
             have n2_ := Aside0.mk (bkb_ BK395.out hb)
             have n3_ := Aside0.mk (below_step (hb_ HB.out) hb)
             have n4_ := Aside0.mk (hbox)
             have n5_ := Aside0.mk ((by rw [hg]; exact (below_size (hb_ HB.out)) : w.heap.size ≤ gb418))
             have n6_ := Aside0.mk ((by rw [hg]; exact (below_size (hb_ HB.out)) : w.heap.size ≤ gb418))
             have n7_ := Aside0.mk ((by rw [hg]; exact Nat.ne_of_lt (bkl_ BK388.out) : gb388 ≠ gb418))
             have n8_ := Aside0.mk ((by rw [hg]; exact Nat.ne_of_gt (bkl_ BK388.out) : gb418 ≠ gb388))
             have n9_ := Aside0.mk ((by rw [hg]; exact Nat.ne_of_lt (bkl_ BK395.out) : gb395 ≠ gb418))
             have n10_ := Aside0.mk ((by rw [hg]; exact Nat.ne_of_gt (bkl_ BK395.out) : gb418 ≠ gb395))
             clear HO412
             clear BK388
             clear BK395
             clear HB
             have HO412 := n0_
             have BK388 := n1_
             have BK395 := n2_
             have HB := n3_
             have BK418 := n4_
             have GW418 := n5_
             have GE418 := n6_
             have NB388_418 := n7_
             have NB418_388 := n8_
             have NB395_418 := n9_
             have NB418_395 := n10_
             clear n0_ n1_ n2_ n3_ n4_ n5_ n6_ n7_ n8_ n9_ n10_
             clear hb hbox hg
             refine hK.out _ _ ⟨(blk_cell BK388.out 0).trans rfl, (blk_cell BK388.out 1).trans rfl⟩ (fun hHeld => ?_)
             clear hK K
             refine norm_ (a' := ?_) ?_ ?_
             rotate_left
             ·show Act.put _ (some 16) _ = _
              simp only [Act.put, List.setIfInBounds_toArray, List.set_cons_zero, List.set_cons_succ, i64_w, i32_w]
              rfl
             exact norm_ (by simp only [putAll, Act.put, List.setIfInBounds_toArray, List.set_cons_zero, List.set_cons_succ]) (hCont (.slice Ao76 t410.length co76, gb418) _ ⟨hHeld, (kr_ (HO412.out)), (bk_ BK388.out), (bk_ BK395.out), (bk_ BK418.out), GW418.out, GE418.out, NB388_418.out, NB418_388.out, NB395_418.out, NB418_395.out, (hb_ HB.out)⟩)
            ·skip
             refine box_step ?hg (N := 16) ?hd (cs := #[.int .i64 0, .int .i64 0]) (t := 23) ?hr ?_; (case hd => rfl); (case hg => rfl); (case hr => first | (go_simp; done) | (go_simp; rfl))
             intro gb418 hg w76 hbox hb
             have n0_ := Aside0.mk (Kd.R_below (kr_ (HO412.out)) hb)
             have n1_ := Aside0.mk (bkb_ BK388.out hb)
             have n2_ := Aside0.mk (bkb_ BK395.out hb)
             have n3_ := Aside0.mk (below_step (hb_ HB.out) hb)
             have n4_ := Aside0.mk (hbox)
             have n5_ := Aside0.mk ((by rw [hg]; exact (below_size (hb_ HB.out)) : w.heap.size ≤ gb418))
             have n6_ := Aside0.mk ((by rw [hg]; exact (below_size (hb_ HB.out)) : w.heap.size ≤ gb418))
             have n7_ := Aside0.mk ((by rw [hg]; exact Nat.ne_of_lt (bkl_ BK388.out) : gb388 ≠ gb418))
             have n8_ := Aside0.mk ((by rw [hg]; exact Nat.ne_of_gt (bkl_ BK388.out) : gb418 ≠ gb388))
             have n9_ := Aside0.mk ((by rw [hg]; exact Nat.ne_of_lt (bkl_ BK395.out) : gb395 ≠ gb418))
             have n10_ := Aside0.mk ((by rw [hg]; exact Nat.ne_of_gt (bkl_ BK395.out) : gb418 ≠ gb395))
             clear HO412
             clear BK388
             clear BK395
             clear HB
             have HO412 := n0_
             have BK388 := n1_
             have BK395 := n2_
             have HB := n3_
             have BK418 := n4_
             have GW418 := n5_
             have GE418 := n6_
             have NB388_418 := n7_
             have NB418_388 := n8_
             have NB395_418 := n9_
             have NB418_395 := n10_
             clear n0_ n1_ n2_ n3_ n4_ n5_ n6_ n7_ n8_ n9_ n10_
             clear hb hbox hg
             obtain ⟨Ao77, co77, eo77⟩ := Kd.R_slice HO412.out
             (first | subst eo77 | (injection eo77 with f1_ f2_ f3_; have f4_ := f1_.symm; have f5_ := f3_.symm; clear f1_ f2_ f3_; subst f4_; subst f5_))
             refine hK.out _ _ ⟨(blk_cell BK388.out 0).trans rfl, (blk_cell BK388.out 1).trans rfl⟩ (fun hHeld => ?_)
             clear hK K
             refine norm_ (a' := ?_) ?_ ?_
             rotate_left
             ·show Act.put _ (some 16) _ = _
              simp only [Act.put, List.setIfInBounds_toArray, List.set_cons_zero, List.set_cons_succ, i64_w, i32_w]
              rfl
             refine one_ (i := 4) (N := some 139) #[true, true, true, true, true, false, false, false, false, false, true, false, false, false, false] rfl rfl (one_of HT_.out (by kernel_rfl)) (by decide) (fun K hK => ?_)
             refine goes_ Try.func10 (by kernel_rfl) rfl #[.slice Ao77 t410.length co77, .agg #[.int .i64 a1_0, .int .i64 a1_1], .int .i64 (wrap64 (Int.tmod (IntKind.u64.wrap (a2)) 201))] (by rfl) rfl rfl al_ ?_
             with_reducible refine (tags_Go.calls kj58 _ _ t410 a1_0 a1_1 (wrap64 (Int.tmod (IntKind.u64.wrap (a2)) 201)) t413 t414 t415 t416 t417 _ ?side1 ?side2 A70.out).mono ?_
             (case side1 => exact kc_ (Kd.R_reads' HO412.out).2.2)
             (case side2 => exact (Kd.R_reads' HO412.out).2.1)
             rintro e w78 ⟨rfl, hb⟩
             refine ⟨_, rfl, ?_⟩
             have n0_ := Aside0.mk (Kd.R_below (kr_ (HO412.out)) hb)
             have n1_ := Aside0.mk (bkb_ BK388.out hb)
             have n2_ := Aside0.mk (bkb_ BK395.out hb)
             have n3_ := Aside0.mk (bkb_ BK418.out hb)
             have n4_ := Aside0.mk (below_step (hb_ HB.out) hb)
             clear HO412
             clear BK388
             clear BK395
             clear BK418
             clear HB
             have HO412 := n0_
             have BK388 := n1_
             have BK395 := n2_
             have BK418 := n3_
             have HB := n4_
             clear n0_ n1_ n2_ n3_ n4_
             (try clear hb)
             (try clear hb2)
             (try clear hk)
             (try clear hi)
             refine hK.out _ _ ⟨(blk_cell BK388.out 0).trans rfl, (blk_cell BK388.out 1).trans rfl⟩ (fun hHeld => ?_)
             clear hK K
             refine norm_ (a' := ?_) ?_ ?_
             rotate_left
             ·show Act.put _ (some 139) _ = _
              simp only [Act.put, List.setIfInBounds_toArray, List.set_cons_zero, List.set_cons_succ, i64_w, i32_w]
              rfl
             refine pure_ (i := 5) (N := some 134) (v := ?_) (a' := ?_) #[true, true, true, true, true, true, false, false, false, false, true, false, false, false, false] rfl rfl (any_of HT_.out (by kernel_rfl)) (fun _ _ _ h => h) (Or.inl ⟨by rfl, ?_⟩) ?_ ?_
             rotate_left
             ·intro w'
              go_simp
              with_reducible rfl
             rotate_left
             ·simp only [Act.put, List.setIfInBounds_toArray, List.set_cons_zero, List.set_cons_succ, i64_w, i32_w]
              rfl
             refine pure_ (i := 6) (N := some 140) (v := ?_) (a' := ?_) #[true, true, true, true, true, true, true, false, false, false, true, false, false, false, false] rfl rfl (any_of HT_.out (by kernel_rfl)) (fun _ _ _ h => h) (Or.inl ⟨by rfl, ?_⟩) ?_ ?_
             rotate_left
             ·intro w'
              go_simp
              with_reducible rfl
             rotate_left
             ·simp only [Act.put, List.setIfInBounds_toArray, List.set_cons_zero, List.set_cons_succ, i64_w, i32_w]
              rfl
             refine pure_ (i := 7) (N := some 141) (v := ?_) (a' := ?_) #[true, true, true, true, true, true, true, true, false, false, true, false, false, false, false] rfl rfl (any_of HT_.out (by kernel_rfl)) (fun _ _ _ h => h) (Or.inl ⟨by rfl, ?_⟩) ?_ ?_
             rotate_left
             ·intro w'
              go_simp
              with_reducible rfl
             rotate_left
             ·simp only [Act.put, List.setIfInBounds_toArray, List.set_cons_zero, List.set_cons_succ, i64_w, i32_w]
              rfl
             refine pure_ (i := 8) (N := some 142) (v := ?_) (a' := ?_) #[true, true, true, true, true, true, true, true, true, false, true, false, false, false, false] rfl rfl (any_of HT_.out (by kernel_rfl)) (fun _ _ _ h => h) (Or.inl ⟨by rfl, ?_⟩) ?_ ?_
             rotate_left
             ·intro w'
              go_simp
              with_reducible rfl
             rotate_left
             ·simp only [Act.put, List.setIfInBounds_toArray, List.set_cons_zero, List.set_cons_succ, i64_w, i32_w]
              rfl
             refine pure_ (i := 9) (N := some 143) (v := ?_) (a' := ?_) #[true, true, true, true, true, true, true, true, true, true, true, false, false, false, false] rfl rfl (any_of HT_.out (by kernel_rfl)) (fun _ _ _ h => h) (Or.inl ⟨by rfl, ?_⟩) ?_ ?_
             rotate_left
             ·intro w'
              go_simp
              with_reducible rfl
             rotate_left
             ·simp only [Act.put, List.setIfInBounds_toArray, List.set_cons_zero, List.set_cons_succ, i64_w, i32_w]
              rfl
             exact norm_ (by simp only [putAll, Act.put, List.setIfInBounds_toArray, List.set_cons_zero, List.set_cons_succ]) (hCont (.slice Ao77 t410.length co77, gb418) _ ⟨hHeld, (kr_ (HO412.out)), (bk_ BK388.out), (bk_ BK395.out), (bk_ BK418.out), GW418.out, GE418.out, NB388_418.out, NB418_388.out, NB395_418.out, NB418_395.out, (hb_ HB.out)⟩)
           ·skip
            refine box_step ?hg (N := 16) ?hd (cs := #[.int .i64 0, .int .i64 0]) (t := 23) ?hr ?_; (case hd => rfl); (case hg => rfl); (case hr => first | (go_simp; done) | (go_simp; rfl))
            intro gb418 hg w75 hbox hb
            have n0_ := Aside0.mk (bkb_ BK388.out hb)
            have n1_ := Aside0.mk (bkb_ BK395.out hb)
            have n2_ := Aside0.mk (below_step (hb_ HB.out) hb)
            have n3_ := Aside0.mk (hbox)
            have n4_ := Aside0.mk ((by rw [hg]; exact (below_size (hb_ HB.out)) : w.heap.size ≤ gb418))
            have n5_ := Aside0.mk ((by rw [hg]; exact (below_size (hb_ HB.out)) : w.heap.size ≤ gb418))
            have n6_ := Aside0.mk ((by rw [hg]; exact Nat.ne_of_lt (bkl_ BK388.out) : gb388 ≠ gb418))
            have n7_ := Aside0.mk ((by rw [hg]; exact Nat.ne_of_gt (bkl_ BK388.out) : gb418 ≠ gb388))
            have n8_ := Aside0.mk ((by rw [hg]; exact Nat.ne_of_lt (bkl_ BK395.out) : gb395 ≠ gb418))
            have n9_ := Aside0.mk ((by rw [hg]; exact Nat.ne_of_gt (bkl_ BK395.out) : gb418 ≠ gb395))
            clear BK388
            clear BK395
            clear HB
            have BK388 := n0_
            have BK395 := n1_
            have HB := n2_
            have BK418 := n3_
            have GW418 := n4_
            have GE418 := n5_
            have NB388_418 := n6_
            have NB418_388 := n7_
            have NB395_418 := n8_
            have NB418_395 := n9_
            clear n0_ n1_ n2_ n3_ n4_ n5_ n6_ n7_ n8_ n9_
            clear hb hbox hg
            refine hK.out _ _ ⟨(blk_cell BK388.out 0).trans rfl, (blk_cell BK388.out 1).trans rfl⟩ (fun hHeld => ?_)
            clear hK K
            refine norm_ (a' := ?_) ?_ ?_
            rotate_left
            ·show Act.put _ (some 16) _ = _
             simp only [Act.put, List.setIfInBounds_toArray, List.set_cons_zero, List.set_cons_succ, i64_w, i32_w]
             rfl
            refine one_ (i := 1) (N := some 136) #[true, true, true, true, false, false, false, false, false, false, true, false, false, false, false] rfl rfl (one_of HT_.out (by kernel_rfl)) (by decide) (fun K hK => ?_)
            refine goes_ Try.func11 (by kernel_rfl) rfl #[.slice A0 l0.length c0] (by rfl) rfl rfl al_ ?_
            with_reducible refine (comfitlaw06_Of.calls kj58 _ _ l0 t410 _ ?side1 ?side2 A69.out).mono ?_
            (case side1 => exact kc_ (Kd.C_below HR0.out HB.out))
            (case side2 => exact HC0.out)
            rintro e w76 ⟨v411, rfl, ho0, hb⟩
            refine ⟨_, rfl, ?_⟩
            have n0_ := Aside0.mk (Kd.R_lower ho0 (below_size (hb_ HB.out)))
            have n1_ := Aside0.mk (bkb_ BK388.out hb)
            have n2_ := Aside0.mk (bkb_ BK395.out hb)
            have n3_ := Aside0.mk (bkb_ BK418.out hb)
            have n4_ := Aside0.mk (below_step (hb_ HB.out) hb)
            clear BK388
            clear BK395
            clear BK418
            clear HB
            have HO412 := n0_
            have BK388 := n1_
            have BK395 := n2_
            have BK418 := n3_
            have HB := n4_
            clear n0_ n1_ n2_ n3_ n4_
            (try clear hb)
            (try clear hb2)
            (try clear hk)
            (try clear hi)
            (try clear ho0)
            obtain ⟨Ao77, co77, eo77⟩ := Kd.R_slice HO412.out
            (first | subst eo77 | (injection eo77 with f1_ f2_ f3_; have f4_ := f1_.symm; have f5_ := f3_.symm; clear f1_ f2_ f3_; subst f4_; subst f5_))
            refine hK.out _ _ ⟨(blk_cell BK388.out 0).trans rfl, (blk_cell BK388.out 1).trans rfl⟩ (fun hHeld => ?_)
            clear hK K
            refine norm_ (a' := ?_) ?_ ?_
            rotate_left
            ·show Act.put _ (some 136) _ = _
             simp only [Act.put, List.setIfInBounds_toArray, List.set_cons_zero, List.set_cons_succ, i64_w, i32_w]
             rfl
            refine one_ (i := 4) (N := some 139) #[true, true, true, true, true, false, false, false, false, false, true, false, false, false, false] rfl rfl (one_of HT_.out (by kernel_rfl)) (by decide) (fun K hK => ?_)
            refine goes_ Try.func10 (by kernel_rfl) rfl #[.slice Ao77 t410.length co77, .agg #[.int .i64 a1_0, .int .i64 a1_1], .int .i64 (wrap64 (Int.tmod (IntKind.u64.wrap (a2)) 201))] (by rfl) rfl rfl al_ ?_
            with_reducible refine (tags_Go.calls kj58 _ _ t410 a1_0 a1_1 (wrap64 (Int.tmod (IntKind.u64.wrap (a2)) 201)) t413 t414 t415 t416 t417 _ ?side1 ?side2 A70.out).mono ?_
            (case side1 => exact kc_ (Kd.R_reads' HO412.out).2.2)
            (case side2 => exact (Kd.R_reads' HO412.out).2.1)
            rintro e w78 ⟨rfl, hb⟩
            refine ⟨_, rfl, ?_⟩
            have n0_ := Aside0.mk (Kd.R_below (kr_ (HO412.out)) hb)
            have n1_ := Aside0.mk (bkb_ BK388.out hb)
            have n2_ := Aside0.mk (bkb_ BK395.out hb)
            have n3_ := Aside0.mk (bkb_ BK418.out hb)
            have n4_ := Aside0.mk (below_step (hb_ HB.out) hb)
            clear HO412
            clear BK388
            clear BK395
            clear BK418
            clear HB
            have HO412 := n0_
            have BK388 := n1_
            have BK395 := n2_
            have BK418 := n3_
            have HB := n4_
            clear n0_ n1_ n2_ n3_ n4_
            (try clear hb)
            (try clear hb2)
            (try clear hk)
            (try clear hi)
            refine hK.out _ _ ⟨(blk_cell BK388.out 0).trans rfl, (blk_cell BK388.out 1).trans rfl⟩ (fun hHeld => ?_)
            clear hK K
            refine norm_ (a' := ?_) ?_ ?_
            rotate_left
            ·show Act.put _ (some 139) _ = _
             simp only [Act.put, List.setIfInBounds_toArray, List.set_cons_zero, List.set_cons_succ, i64_w, i32_w]
             rfl
            refine pure_ (i := 5) (N := some 134) (v := ?_) (a' := ?_) #[true, true, true, true, true, true, false, false, false, false, true, false, false, false, false] rfl rfl (any_of HT_.out (by kernel_rfl)) (fun _ _ _ h => h) (Or.inl ⟨by rfl, ?_⟩) ?_ ?_
            rotate_left
            ·intro w'
             go_simp
             with_reducible rfl
            rotate_left
            ·simp only [Act.put, List.setIfInBounds_toArray, List.set_cons_zero, List.set_cons_succ, i64_w, i32_w]
             rfl
            refine pure_ (i := 6) (N := some 140) (v := ?_) (a' := ?_) #[true, true, true, true, true, true, true, false, false, false, true, false, false, false, false] rfl rfl (any_of HT_.out (by kernel_rfl)) (fun _ _ _ h => h) (Or.inl ⟨by rfl, ?_⟩) ?_ ?_
            rotate_left
            ·intro w'
             go_simp
             with_reducible rfl
            rotate_left
            ·simp only [Act.put, List.setIfInBounds_toArray, List.set_cons_zero, List.set_cons_succ, i64_w, i32_w]
             rfl
            refine pure_ (i := 7) (N := some 141) (v := ?_) (a' := ?_) #[true, true, true, true, true, true, true, true, false, false, true, false, false, false, false] rfl rfl (any_of HT_.out (by kernel_rfl)) (fun _ _ _ h => h) (Or.inl ⟨by rfl, ?_⟩) ?_ ?_
            rotate_left
            ·intro w'
             go_simp
             with_reducible rfl
            rotate_left
            ·simp only [Act.put, List.setIfInBounds_toArray, List.set_cons_zero, List.set_cons_succ, i64_w, i32_w]
             rfl
            refine pure_ (i := 8) (N := some 142) (v := ?_) (a' := ?_) #[true, true, true, true, true, true, true, true, true, false, true, false, false, false, false] rfl rfl (any_of HT_.out (by kernel_rfl)) (fun _ _ _ h => h) (Or.inl ⟨by rfl, ?_⟩) ?_ ?_
            rotate_left
            ·intro w'
             go_simp
             with_reducible rfl
            rotate_left
            ·simp only [Act.put, List.setIfInBounds_toArray, List.set_cons_zero, List.set_cons_succ, i64_w, i32_w]
             rfl
            refine pure_ (i := 9) (N := some 143) (v := ?_) (a' := ?_) #[true, true, true, true, true, true, true, true, true, true, true, false, false, false, false] rfl rfl (any_of HT_.out (by kernel_rfl)) (fun _ _ _ h => h) (Or.inl ⟨by rfl, ?_⟩) ?_ ?_
            rotate_left
            ·intro w'
             go_simp
             with_reducible rfl
            rotate_left
            ·simp only [Act.put, List.setIfInBounds_toArray, List.set_cons_zero, List.set_cons_succ, i64_w, i32_w]
             rfl
            exact norm_ (by simp only [putAll, Act.put, List.setIfInBounds_toArray, List.set_cons_zero, List.set_cons_succ]) (hCont (.slice Ao77 t410.length co77, gb418) _ ⟨hHeld, (kr_ (HO412.out)), (bk_ BK388.out), (bk_ BK395.out), (bk_ BK418.out), GW418.out, GE418.out, NB388_418.out, NB418_388.out, NB395_418.out, NB418_395.out, (hb_ HB.out)⟩)
          rintro ⟨v411, gb418⟩ w79 ⟨hS_, h0_, h1_, h2_, h3_, h4_, h5_, h6_, h7_, h8_, h9_, h10_⟩
          have n0_ : Aside0 (Kd.R k57 57 w79 w.heap.size (fun _ => True) v411 t410) := ⟨h0_⟩
          have n1_ : Aside0 (w79.heap[gb388]? = some (.cells #[.int .i64 a1_0, .int .i64 a1_1] 23 (0, 0))) := ⟨h1_⟩
          have n2_ : Aside0 (w79.heap[gb395]? = some (.cells #[.int .i64 t392, .int .i64 t393] 23 (0, 0))) := ⟨h2_⟩
          have n3_ : Aside0 (w79.heap[gb418]? = some (.cells #[.int .i64 0, .int .i64 0] 23 (0, 0))) := ⟨h3_⟩
          have n4_ : Aside0 (w.heap.size ≤ gb418) := ⟨h4_⟩
          have n5_ : Aside0 (w.heap.size ≤ gb418) := ⟨h5_⟩
          have n6_ : Aside0 (gb388 ≠ gb418) := ⟨h6_⟩
          have n7_ : Aside0 (gb418 ≠ gb388) := ⟨h7_⟩
          have n8_ : Aside0 (gb395 ≠ gb418) := ⟨h8_⟩
          have n9_ : Aside0 (gb418 ≠ gb395) := ⟨h9_⟩
          have n10_ : Aside0 (Below w.heap.size w w79) := ⟨h10_⟩
          clear BK388
          clear BK395
          clear HB
          clear h0_ h1_ h2_ h3_ h4_ h5_ h6_ h7_ h8_ h9_ h10_
          have HO412 := n0_
          have BK388 := n1_
          have BK395 := n2_
          have BK418 := n3_
          have GW418 := n4_
          have GE418 := n5_
          have NB388_418 := n6_
          have NB418_388 := n7_
          have NB395_418 := n8_
          have NB418_395 := n9_
          have HB := n10_
          clear n0_ n1_ n2_ n3_ n4_ n5_ n6_ n7_ n8_ n9_ n10_
          have hHeld : w79.cell? ⟨gb388, 0, none⟩ = some (.int .i64 a1_0) ∧ w79.cell? ⟨gb388, 1, none⟩ = some (.int .i64 a1_1) := hS_
          refine norm_ (a' := ?_) ?_ ?_
          rotate_left
          ·simp only [putAll, Act.put, List.setIfInBounds_toArray, List.set_cons_zero, List.set_cons_succ]
           rfl
          refine pure_ (i := 11) (N := some 15) (v := ?_) (a' := ?_) #[true, true, true, true, true, true, true, true, true, true, true, true, false, false, false] rfl rfl (any_of HT_.out (by kernel_rfl)) (fun _ _ _ h => h) (Or.inl ⟨by rfl, ?_⟩) ?_ ?_
          rotate_left
          ·intro w'
           go_simp
           with_reducible rfl
          rotate_left
          ·simp only [Act.put, List.setIfInBounds_toArray, List.set_cons_zero, List.set_cons_succ, i64_w, i32_w]
           rfl
          refine one_ (i := 12) (N := none) #[true, true, true, true, true, true, true, true, true, true, true, true, true, false, false] rfl rfl (one_of HT_.out (by kernel_rfl)) (by decide) (fun K hK => ?_)
          have hs80 : w79.cell? ⟨gb418, 0, none⟩ = some (.int .i64 0) := (blk_cell BK418.out 0).trans rfl
          have hfs80 := blk_frozen BK418.out 0
          have hns80_0 := NB388_418.out
          have hns80_1 := NB395_418.out
          have hms80_0 := NB418_388.out
          have hms80_1 := NB418_395.out
          have hs81 : w79.cell? ⟨gb418, 1, none⟩ = some (.int .i64 0) := (blk_cell BK418.out 1).trans rfl
          have hfs81 := blk_frozen BK418.out 1
          have hns81_0 := NB388_418.out
          have hns81_1 := NB395_418.out
          have hms81_0 := NB418_388.out
          have hms81_1 := NB418_395.out
          refine skip_ (w1 := ?_) (by rfl) rfl ?_ ?_
          rotate_left
          ·go_simp
           rfl
          refine hK.out _ _ ⟨((cell_far (p := ⟨gb418, _, none⟩) NB388_418.out _).trans (((cell_far (p := ⟨gb418, _, none⟩) NB388_418.out _).trans (hHeld.1)))), ((cell_far (p := ⟨gb418, _, none⟩) NB388_418.out _).trans (((cell_far (p := ⟨gb418, _, none⟩) NB388_418.out _).trans (hHeld.2))))⟩ (fun hHeld => ?_)
          clear hK K
          refine pure_ (i := 13) (N := some 17) (v := ?_) (a' := ?_) #[true, true, true, true, true, true, true, true, true, true, true, true, true, true, false] rfl rfl (any_of HT_.out (by kernel_rfl)) (fun _ _ _ h => h) (Or.inl ⟨by rfl, ?_⟩) ?_ ?_
          rotate_left
          ·intro w'
           go_simp
           with_reducible rfl
          rotate_left
          ·simp only [Act.put, List.setIfInBounds_toArray, List.set_cons_zero, List.set_cons_succ, i64_w, i32_w]
           rfl
          refine pure_ (i := 14) (N := some 18) (v := ?_) (a' := ?_) #[true, true, true, true, true, true, true, true, true, true, true, true, true, true, true] rfl rfl (any_of HT_.out (by kernel_rfl)) (fun _ _ _ h => h) (Or.inl ⟨by rfl, ?_⟩) ?_ ?_
          rotate_left
          ·intro w'
           go_simp
           with_reducible rfl
          rotate_left
          ·simp only [Act.put, List.setIfInBounds_toArray, List.set_cons_zero, List.set_cons_succ, i64_w, i32_w]
           rfl
          refine done_ (done_of HT_.out (by kernel_rfl)) ?_
          try go_wp2
          have n0_ : Aside0 (Kd.R k57 57 ((w79.setCell ⟨gb418, 0, none⟩ (.int .i64 t414)).setCell ⟨gb418, 1, none⟩ (.int .i64 t415)) w.heap.size (fun _ => True) v411 t410) := ⟨by (with_reducible repeat (first | apply Kd.R_alloc | apply Kd.R_drewN | apply Kd.R_drew)); exact Kd.R_mono (Kd.R_far (p := ⟨gb418, 1, none⟩) (Kd.R_far (p := ⟨gb418, 0, none⟩) (Kd.R_types HO412.out BK418.out (by decide)) (fun _ hk => hk.2) (.int .i64 t414)) (fun _ hk => hk.2) (.int .i64 t415)) (fun _ hk => trivial)⟩
          have n1_ : Aside0 (((w79.setCell ⟨gb418, 0, none⟩ (.int .i64 t414)).setCell ⟨gb418, 1, none⟩ (.int .i64 t415)).heap[gb388]? = some (.cells #[.int .i64 a1_0, .int .i64 a1_1] 23 (0, 0))) := ⟨by (with_reducible repeat (first | refine blk_drewN ?_ _ | refine blk_drew ?_ | refine blk_alloc ?_ _)); refine blk_far ?_ NB388_418.out _; (with_reducible repeat (first | refine blk_drewN ?_ _ | refine blk_drew ?_ | refine blk_alloc ?_ _)); refine blk_far ?_ NB388_418.out _; (with_reducible repeat (first | refine blk_drewN ?_ _ | refine blk_drew ?_ | refine blk_alloc ?_ _)); exact BK388.out⟩
          have n2_ : Aside0 (((w79.setCell ⟨gb418, 0, none⟩ (.int .i64 t414)).setCell ⟨gb418, 1, none⟩ (.int .i64 t415)).heap[gb395]? = some (.cells #[.int .i64 t392, .int .i64 t393] 23 (0, 0))) := ⟨by (with_reducible repeat (first | refine blk_drewN ?_ _ | refine blk_drew ?_ | refine blk_alloc ?_ _)); refine blk_far ?_ NB395_418.out _; (with_reducible repeat (first | refine blk_drewN ?_ _ | refine blk_drew ?_ | refine blk_alloc ?_ _)); refine blk_far ?_ NB395_418.out _; (with_reducible repeat (first | refine blk_drewN ?_ _ | refine blk_drew ?_ | refine blk_alloc ?_ _)); exact BK395.out⟩
          have n3_ : Aside0 (((w79.setCell ⟨gb418, 0, none⟩ (.int .i64 t414)).setCell ⟨gb418, 1, none⟩ (.int .i64 t415)).heap[gb418]? = some (.cells #[.int .i64 t414, .int .i64 t415] 23 (0, 0))) := ⟨by (with_reducible repeat (first | refine blk_drewN ?_ _ | refine blk_drew ?_ | refine blk_alloc ?_ _)); refine blk_put (cs := #[.int .i64 t414, .int .i64 0]) ?_ 1 _ rfl; (with_reducible repeat (first | refine blk_drewN ?_ _ | refine blk_drew ?_ | refine blk_alloc ?_ _)); refine blk_put (cs := #[.int .i64 0, .int .i64 0]) ?_ 0 _ rfl; (with_reducible repeat (first | refine blk_drewN ?_ _ | refine blk_drew ?_ | refine blk_alloc ?_ _)); exact BK418.out⟩
          have n4_ : Aside0 (Below w.heap.size w ((w79.setCell ⟨gb418, 0, none⟩ (.int .i64 t414)).setCell ⟨gb418, 1, none⟩ (.int .i64 t415))) := ⟨by repeat (first | (with_reducible first | exact HB.out | apply below_alloc | apply pw_below_drewN | apply below_drew1 | refine below_set ?_ GE388.out | refine below_set ?_ GE395.out | refine below_set ?_ GE418.out) | exact HB.out)⟩
          (try clear HO412)
          (try clear BK388)
          (try clear BK395)
          (try clear BK418)
          (try clear HB)
          generalize ((w79.setCell ⟨gb418, 0, none⟩ (.int .i64 t414)).setCell ⟨gb418, 1, none⟩ (.int .i64 t415)) = w82 at n0_ n1_ n2_ n3_ n4_ ⊢
          have HO412 := n0_
          have BK388 := n1_
          have BK395 := n2_
          have BK418 := n3_
          have HB := n4_
          clear n0_ n1_ n2_ n3_ n4_
          have n0_ := Aside0.mk (Kd.R_drew HO412.out)
          have n1_ := Aside0.mk (blk_drew BK388.out)
          have n2_ := Aside0.mk (blk_drew BK395.out)
          have n3_ := Aside0.mk (blk_drew BK418.out)
          have n4_ := Aside0.mk (below_drew1 HB.out)
          clear HO412
          clear BK388
          clear BK395
          clear BK418
          clear HB
          have HO412 := n0_
          have BK388 := n1_
          have BK395 := n2_
          have BK418 := n3_
          have HB := n4_
          clear n0_ n1_ n2_ n3_ n4_
          refine start_ (n := 15) (S := fun w' => w'.cell? ⟨gb388, 0, none⟩ = some (.int .i64 a1_0) ∧ w'.cell? ⟨gb388, 1, none⟩ = some (.int .i64 a1_1)) (ds := []) #[false, false, false, false, false, false, false, false, false, false, false, false, false, false, false] (by kernel_rfl) rfl rfl ⟨(blk_cell BK388.out 0).trans rfl, (blk_cell BK388.out 1).trans rfl⟩ (fun hHeld => ?_); refine with_tabW comfitlaw06_TagsCircles.tab17 comfitlaw06_TagsCircles.bits17 (fun HT_ HW_ => ?_)
          generalize w82.drew = w83 at HO412 BK388 BK395 BK418 HB hHeld ⊢
          refine pure_ (i := 0) (N := some 145) (v := ?_) (a' := ?_) #[true, false, false, false, false, false, false, false, false, false, false, false, false, false, false] rfl rfl (any_of HT_.out (by kernel_rfl)) (fun _ _ _ h => h) (Or.inl ⟨by rfl, ?_⟩) ?_ ?_
          rotate_left
          ·intro w'
           go_simp
           with_reducible rfl
          rotate_left
          ·simp only [Act.put, List.setIfInBounds_toArray, List.set_cons_zero, List.set_cons_succ, i64_w, i32_w]
           rfl
          refine pure_ (i := 3) (N := some 148) (v := ?_) (a' := ?_) #[true, false, false, true, false, false, false, false, false, false, false, false, false, false, false] rfl rfl (any_of HT_.out (by kernel_rfl)) (fun _ _ _ h => h) (Or.inl ⟨by rfl, ?_⟩) ?_ ?_
          rotate_left
          ·intro w'
           go_simp
           with_reducible rfl
          rotate_left
          ·simp only [Act.put, List.setIfInBounds_toArray, List.set_cons_zero, List.set_cons_succ, i64_w, i32_w]
           rfl
          refine take_ (i := 2) (N := some 147) (v := ?_) (a' := ?_) #[true, false, true, true, false, false, false, false, false, false, false, false, false, false, false] rfl rfl (take_ofW HT_.out HW_.out (by kernel_rfl)) (fun _ _ _ h => h) (Or.inl ⟨by rfl, ?_⟩) hHeld ?_ ?_
          rotate_left
          ·rintro w' ⟨s0, s1⟩
           go_simp
           with_reducible rfl
          rotate_left
          ·simp only [Act.put, List.setIfInBounds_toArray, List.set_cons_zero, List.set_cons_succ, i64_w, i32_w]
           rfl
          refine join_ (σ := Value × Nat) 4 #[true, true, true, true, true, true, true, true, true, true, true, false, false, false, false] (fun s_ => [(146, s_.1), (149, .tuple #[.int .i64 t422, .agg #[.int .i64 t423, .int .i64 t424], .int .i64 t425, .int .i64 t426]), (20, .pointer (some ⟨s_.2, 0, none⟩)), (144, .tuple #[.int .i64 t422, .agg #[.int .i64 t423, .int .i64 t424], .int .i64 t425, .int .i64 t426]), (150, .int .i64 t422), (151, .agg #[.int .i64 t423, .int .i64 t424]), (152, .int .i64 t425), (153, .int .i64 t426)]) (fun s_ w' => (w'.cell? ⟨gb388, 0, none⟩ = some (.int .i64 a1_0) ∧ w'.cell? ⟨gb388, 1, none⟩ = some (.int .i64 a1_1)) ∧ (Kd.R k57 57 w' w.heap.size (fun k_ => some k_ ≠ (s_.1 : Value).ownBlock) v411 t410) ∧ (Kd.R k57 57 w' w.heap.size (fun k_ => some k_ ≠ (v411 : Value).ownBlock) s_.1 t419) ∧ (w'.heap[gb388]? = some (.cells #[.int .i64 a1_0, .int .i64 a1_1] 23 (0, 0))) ∧ (w'.heap[gb395]? = some (.cells #[.int .i64 t392, .int .i64 t393] 23 (0, 0))) ∧ (w'.heap[gb418]? = some (.cells #[.int .i64 t414, .int .i64 t415] 23 (0, 0))) ∧ (w'.heap[s_.2]? = some (.cells #[.int .i64 0, .int .i64 0] 23 (0, 0))) ∧ (w.heap.size ≤ s_.2) ∧ (w.heap.size ≤ s_.2) ∧ (gb388 ≠ s_.2) ∧ (s_.2 ≠ gb388) ∧ (gb395 ≠ s_.2) ∧ (s_.2 ≠ gb395) ∧ (gb418 ≠ s_.2) ∧ (s_.2 ≠ gb418) ∧ (Below w.heap.size w w')) ?_ ?_
          rotate_left
          ·intro hCont
           refine two_ (i := 1) (j := 10) (Ni := some 146) (Nj := some 20) #[true, true, true, true, false, false, false, false, false, false, false, false, false, false, false] #[true, false, true, true, false, false, false, false, false, false, true, false, false, false, false] rfl rfl rfl rfl (two_of HT_.out (by kernel_rfl)) (by decide) (by decide) (fun K hK => ?_) (fun K hK => ?_)
           ·skip
            refine goes_ Try.func11 (by kernel_rfl) rfl #[.slice A0 l0.length c0] (by rfl) rfl rfl al_ ?_
            with_reducible refine (comfitlaw06_Of.calls kj58 _ _ l0 t419 _ ?side1 ?side2 A71.out).mono ?_
            (case side1 => exact kc_ (Kd.C_below HR0.out HB.out))
            (case side2 => exact HC0.out)
            rintro e w84 ⟨v420, rfl, ho0, hb⟩
            refine ⟨_, rfl, ?_⟩
            have n0_ := Aside0.mk (Kd.R_elder' (kr_ (HO412.out)) (Kd.R_base ho0) hb)
            have n1_ := Aside0.mk (Kd.R_lower (Kd.R_new' ho0 (Kd.R_lt (kr_ (HO412.out)))) (below_size (hb_ HB.out)))
            have n2_ := Aside0.mk (bkb_ BK388.out hb)
            have n3_ := Aside0.mk (bkb_ BK395.out hb)
            have n4_ := Aside0.mk (bkb_ BK418.out hb)
            have n5_ := Aside0.mk (below_step (hb_ HB.out) hb)
            clear HO412
            clear BK388
            clear BK395
            clear BK418
            clear HB
            have HO412 := n0_
            have HO421 := n1_
            have BK388 := n2_
            have BK395 := n3_
            have BK418 := n4_
            have HB := n5_
            clear n0_ n1_ n2_ n3_ n4_ n5_
            (try clear hb)
            (try clear hb2)
            (try clear hk)
            (try clear hi)
            (try clear ho0)
            obtain ⟨Ao85, co85, eo85⟩ := Kd.R_slice HO421.out
            (first | subst eo85 | (injection eo85 with f1_ f2_ f3_; have f4_ := f1_.symm; have f5_ := f3_.symm; clear f1_ f2_ f3_; subst f4_; subst f5_))
            refine hK.out _ _ ⟨(blk_cell BK388.out 0).trans rfl, (blk_cell BK388.out 1).trans rfl⟩ (fun hHeld => ?_)
            clear hK K
            refine norm_ (a' := ?_) ?_ ?_
            rotate_left
            ·show Act.put _ (some 146) _ = _
             simp only [Act.put, List.setIfInBounds_toArray, List.set_cons_zero, List.set_cons_succ, i64_w, i32_w]
             rfl
            refine two_ (i := 4) (j := 10) (Ni := some 149) (Nj := some 20) #[true, true, true, true, true, false, false, false, false, false, false, false, false, false, false] #[true, true, true, true, false, false, false, false, false, false, true, false, false, false, false] rfl rfl rfl rfl (two_of HT_.out (by kernel_rfl)) (by decide) (by decide) (fun K hK => ?_) (fun K hK => ?_)
            ·skip
             refine goes_ Try.func10 (by kernel_rfl) rfl #[.slice Ao85 t419.length co85, .agg #[.int .i64 a1_0, .int .i64 a1_1], .int .i64 (wrap64 (Int.tmod (IntKind.u64.wrap (a3)) 201))] (by rfl) rfl rfl al_ ?_
             with_reducible refine (tags_Go.calls kj58 _ _ t419 a1_0 a1_1 (wrap64 (Int.tmod (IntKind.u64.wrap (a3)) 201)) t422 t423 t424 t425 t426 _ ?side1 ?side2 A72.out).mono ?_
             (case side1 => exact kc_ (Kd.R_reads' HO421.out).2.2)
             (case side2 => exact (Kd.R_reads' HO421.out).2.1)
             rintro e w86 ⟨rfl, hb⟩
             refine ⟨_, rfl, ?_⟩
             have n0_ := Aside0.mk (Kd.R_below (kr_ (HO412.out)) hb)
             have n1_ := Aside0.mk (Kd.R_below (kr_ (HO421.out)) hb)
             have n2_ := Aside0.mk (bkb_ BK388.out hb)
             have n3_ := Aside0.mk (bkb_ BK395.out hb)
             have n4_ := Aside0.mk (bkb_ BK418.out hb)
             have n5_ := Aside0.mk (below_step (hb_ HB.out) hb)
             clear HO412
             clear HO421
             clear BK388
             clear BK395
             clear BK418
             clear HB
             have HO412 := n0_
             have HO421 := n1_
             have BK388 := n2_
             have BK395 := n3_
             have BK418 := n4_
             have HB := n5_
             clear n0_ n1_ n2_ n3_ n4_ n5_
             (try clear hb)
             (try clear hb2)
             (try clear hk)
             (try clear hi)
             refine hK.out _ _ ⟨(blk_cell BK388.out 0).trans rfl, (blk_cell BK388.out 1).trans rfl⟩ (fun hHeld => ?_)
             clear hK K
             refine norm_ (a' := ?_) ?_ ?_
             rotate_left
             ·show Act.put _ (some 149) _ = _
              simp only [Act.put, List.setIfInBounds_toArray, List.set_cons_zero, List.set_cons_succ, i64_w, i32_w]
              rfl
             refine pure_ (i := 5) (N := some 144) (v := ?_) (a' := ?_) #[true, true, true, true, true, true, false, false, false, false, false, false, false, false, false] rfl rfl (any_of HT_.out (by kernel_rfl)) (fun _ _ _ h => h) (Or.inl ⟨by rfl, ?_⟩) ?_ ?_
             rotate_left
             ·intro w'
              go_simp
              with_reducible rfl
             rotate_left
             ·simp only [Act.put, List.setIfInBounds_toArray, List.set_cons_zero, List.set_cons_succ, i64_w, i32_w]
              rfl
             refine pure_ (i := 6) (N := some 150) (v := ?_) (a' := ?_) #[true, true, true, true, true, true, true, false, false, false, false, false, false, false, false] rfl rfl (any_of HT_.out (by kernel_rfl)) (fun _ _ _ h => h) (Or.inl ⟨by rfl, ?_⟩) ?_ ?_
             rotate_left
             ·intro w'
              go_simp
              with_reducible rfl
             rotate_left
             ·simp only [Act.put, List.setIfInBounds_toArray, List.set_cons_zero, List.set_cons_succ, i64_w, i32_w]
              rfl
             refine pure_ (i := 7) (N := some 151) (v := ?_) (a' := ?_) #[true, true, true, true, true, true, true, true, false, false, false, false, false, false, false] rfl rfl (any_of HT_.out (by kernel_rfl)) (fun _ _ _ h => h) (Or.inl ⟨by rfl, ?_⟩) ?_ ?_
             rotate_left
             ·intro w'
              go_simp
              with_reducible rfl
             rotate_left
             ·simp only [Act.put, List.setIfInBounds_toArray, List.set_cons_zero, List.set_cons_succ, i64_w, i32_w]
              rfl
             refine pure_ (i := 8) (N := some 152) (v := ?_) (a' := ?_) #[true, true, true, true, true, true, true, true, true, false, false, false, false, false, false] rfl rfl (any_of HT_.out (by kernel_rfl)) (fun _ _ _ h => h) (Or.inl ⟨by rfl, ?_⟩) ?_ ?_
             rotate_left
             ·intro w'
              go_simp
              with_reducible rfl
             rotate_left
             ·simp only [Act.put, List.setIfInBounds_toArray, List.set_cons_zero, List.set_cons_succ, i64_w, i32_w]
              rfl
             refine pure_ (i := 9) (N := some 153) (v := ?_) (a' := ?_) #[true, true, true, true, true, true, true, true, true, true, false, false, false, false, false] rfl rfl (any_of HT_.out (by kernel_rfl)) (fun _ _ _ h => h) (Or.inl ⟨by rfl, ?_⟩) ?_ ?_
             rotate_left
             ·intro w'
              go_simp
              with_reducible rfl
             rotate_left
             ·simp only [Act.put, List.setIfInBounds_toArray, List.set_cons_zero, List.set_cons_succ, i64_w, i32_w]
              rfl
             refine one_ (i := 10) (N := some 20) #[true, true, true, true, true, true, true, true, true, true, true, false, false, false, false] rfl rfl (one_of HT_.out (by kernel_rfl)) (by decide) (fun K hK => ?_)
             refine box_step ?hg (N := 20) ?hd (cs := #[.int .i64 0, .int .i64 0]) (t := 23) ?hr ?_; (case hd => rfl); (case hg => rfl); (case hr => first | (go_simp; done) | (go_simp; rfl))
             intro gb427 hg w87 hbox hb
             have n0_ := Aside0.mk (Kd.R_below (kr_ (HO412.out)) hb)
             have n1_ := Aside0.mk (Kd.R_below (kr_ (HO421.out)) hb)
             have n2_ := Aside0.mk (bkb_ BK388.out hb)
             have n3_ := Aside0.mk (bkb_ BK395.out hb)
             have n4_ := Aside0.mk (bkb_ BK418.out hb)
             have n5_ := Aside0.mk (below_step (hb_ HB.out) hb)
             have n6_ := Aside0.mk (hbox)
             have n7_ := Aside0.mk ((by rw [hg]; exact (below_size (hb_ HB.out)) : w.heap.size ≤ gb427))
             have n8_ := Aside0.mk ((by rw [hg]; exact (below_size (hb_ HB.out)) : w.heap.size ≤ gb427))
             have n9_ := Aside0.mk ((by rw [hg]; exact Nat.ne_of_lt (bkl_ BK388.out) : gb388 ≠ gb427))
             have n10_ := Aside0.mk ((by rw [hg]; exact Nat.ne_of_gt (bkl_ BK388.out) : gb427 ≠ gb388))
             have n11_ := Aside0.mk ((by rw [hg]; exact Nat.ne_of_lt (bkl_ BK395.out) : gb395 ≠ gb427))
             have n12_ := Aside0.mk ((by rw [hg]; exact Nat.ne_of_gt (bkl_ BK395.out) : gb427 ≠ gb395))
             have n13_ := Aside0.mk ((by rw [hg]; exact Nat.ne_of_lt (bkl_ BK418.out) : gb418 ≠ gb427))
             have n14_ := Aside0.mk ((by rw [hg]; exact Nat.ne_of_gt (bkl_ BK418.out) : gb427 ≠ gb418))
             clear HO412
             clear HO421
             clear BK388
             clear BK395
             clear BK418
             clear HB
             have HO412 := n0_
             have HO421 := n1_
             have BK388 := n2_
             have BK395 := n3_
             have BK418 := n4_
             have HB := n5_
             have BK427 := n6_
             have GW427 := n7_
             have GE427 := n8_
             have NB388_427 := n9_
             have NB427_388 := n10_
             have NB395_427 := n11_
             have NB427_395 := n12_
             have NB418_427 := n13_
             have NB427_418 := n14_
             clear n0_ n1_ n2_ n3_ n4_ n5_ n6_ n7_ n8_ n9_ n10_ n11_ n12_ n13_ n14_
             clear hb hbox hg
             refine hK.out _ _ ⟨(blk_cell BK388.out 0).trans rfl, (blk_cell BK388.out 1).trans rfl⟩ (fun hHeld => ?_)
             clear hK K
             refine norm_ (a' := ?_) ?_ ?_
             rotate_left
             ·show Act.put _ (some 20) _ = _
              simp only [Act.put, List.setIfInBounds_toArray, List.set_cons_zero, List.set_cons_succ, i64_w, i32_w]
              rfl
             exact norm_ (by simp only [putAll, Act.put, List.setIfInBounds_toArray, List.set_cons_zero, List.set_cons_succ]) (hCont (.slice Ao85 t419.length co85, gb427) _ ⟨hHeld, (by (with_reducible repeat (first | apply Kd.R_alloc | apply Kd.R_drewN | apply Kd.R_drew)); exact Kd.R_mono HO412.out (fun _ hk => hk.2)), (by (with_reducible repeat (first | apply Kd.R_alloc | apply Kd.R_drewN | apply Kd.R_drew)); exact Kd.R_mono HO421.out (fun _ hk => hk.2)), (bk_ BK388.out), (bk_ BK395.out), (bk_ BK418.out), (bk_ BK427.out), GW427.out, GE427.out, NB388_427.out, NB427_388.out, NB395_427.out, NB427_395.out, NB418_427.out, NB427_418.out, (hb_ HB.out)⟩)
            ·skip
             refine box_step ?hg (N := 20) ?hd (cs := #[.int .i64 0, .int .i64 0]) (t := 23) ?hr ?_; (case hd => rfl); (case hg => rfl); (case hr => first | (go_simp; done) | (go_simp; rfl))
             intro gb427 hg w85 hbox hb
             have n0_ := Aside0.mk (Kd.R_below (kr_ (HO412.out)) hb)
             have n1_ := Aside0.mk (Kd.R_below (kr_ (HO421.out)) hb)
             have n2_ := Aside0.mk (bkb_ BK388.out hb)
             have n3_ := Aside0.mk (bkb_ BK395.out hb)
             have n4_ := Aside0.mk (bkb_ BK418.out hb)
             have n5_ := Aside0.mk (below_step (hb_ HB.out) hb)
             have n6_ := Aside0.mk (hbox)
             have n7_ := Aside0.mk ((by rw [hg]; exact (below_size (hb_ HB.out)) : w.heap.size ≤ gb427))
             have n8_ := Aside0.mk ((by rw [hg]; exact (below_size (hb_ HB.out)) : w.heap.size ≤ gb427))
             have n9_ := Aside0.mk ((by rw [hg]; exact Nat.ne_of_lt (bkl_ BK388.out) : gb388 ≠ gb427))
             have n10_ := Aside0.mk ((by rw [hg]; exact Nat.ne_of_gt (bkl_ BK388.out) : gb427 ≠ gb388))
             have n11_ := Aside0.mk ((by rw [hg]; exact Nat.ne_of_lt (bkl_ BK395.out) : gb395 ≠ gb427))
             have n12_ := Aside0.mk ((by rw [hg]; exact Nat.ne_of_gt (bkl_ BK395.out) : gb427 ≠ gb395))
             have n13_ := Aside0.mk ((by rw [hg]; exact Nat.ne_of_lt (bkl_ BK418.out) : gb418 ≠ gb427))
             have n14_ := Aside0.mk ((by rw [hg]; exact Nat.ne_of_gt (bkl_ BK418.out) : gb427 ≠ gb418))
             clear HO412
             clear HO421
             clear BK388
             clear BK395
             clear BK418
             clear HB
             have HO412 := n0_
             have HO421 := n1_
             have BK388 := n2_
             have BK395 := n3_
             have BK418 := n4_
             have HB := n5_
             have BK427 := n6_
             have GW427 := n7_
             have GE427 := n8_
             have NB388_427 := n9_
             have NB427_388 := n10_
             have NB395_427 := n11_
             have NB427_395 := n12_
             have NB418_427 := n13_
             have NB427_418 := n14_
             clear n0_ n1_ n2_ n3_ n4_ n5_ n6_ n7_ n8_ n9_ n10_ n11_ n12_ n13_ n14_
             clear hb hbox hg
             obtain ⟨Ao86, co86, eo86⟩ := Kd.R_slice HO421.out
             (first | subst eo86 | (injection eo86 with f1_ f2_ f3_; have f4_ := f1_.symm; have f5_ := f3_.symm; clear f1_ f2_ f3_; subst f4_; subst f5_))
             refine hK.out _ _ ⟨(blk_cell BK388.out 0).trans rfl, (blk_cell BK388.out 1).trans rfl⟩ (fun hHeld => ?_)
             clear hK K
             refine norm_ (a' := ?_) ?_ ?_
             rotate_left
             ·show Act.put _ (some 20) _ = _
              simp only [Act.put, List.setIfInBounds_toArray, List.set_cons_zero, List.set_cons_succ, i64_w, i32_w]
              rfl
             refine one_ (i := 4) (N := some 149) #[true, true, true, true, true, false, false, false, false, false, true, false, false, false, false] rfl rfl (one_of HT_.out (by kernel_rfl)) (by decide) (fun K hK => ?_)
             refine goes_ Try.func10 (by kernel_rfl) rfl #[.slice Ao86 t419.length co86, .agg #[.int .i64 a1_0, .int .i64 a1_1], .int .i64 (wrap64 (Int.tmod (IntKind.u64.wrap (a3)) 201))] (by rfl) rfl rfl al_ ?_
             with_reducible refine (tags_Go.calls kj58 _ _ t419 a1_0 a1_1 (wrap64 (Int.tmod (IntKind.u64.wrap (a3)) 201)) t422 t423 t424 t425 t426 _ ?side1 ?side2 A72.out).mono ?_
             (case side1 => exact kc_ (Kd.R_reads' HO421.out).2.2)
             (case side2 => exact (Kd.R_reads' HO421.out).2.1)
             rintro e w87 ⟨rfl, hb⟩
             refine ⟨_, rfl, ?_⟩
             have n0_ := Aside0.mk (Kd.R_below (kr_ (HO412.out)) hb)
             have n1_ := Aside0.mk (Kd.R_below (kr_ (HO421.out)) hb)
             have n2_ := Aside0.mk (bkb_ BK388.out hb)
             have n3_ := Aside0.mk (bkb_ BK395.out hb)
             have n4_ := Aside0.mk (bkb_ BK418.out hb)
             have n5_ := Aside0.mk (bkb_ BK427.out hb)
             have n6_ := Aside0.mk (below_step (hb_ HB.out) hb)
             clear HO412
             clear HO421
             clear BK388
             clear BK395
             clear BK418
             clear BK427
             clear HB
             have HO412 := n0_
             have HO421 := n1_
             have BK388 := n2_
             have BK395 := n3_
             have BK418 := n4_
             have BK427 := n5_
             have HB := n6_
             clear n0_ n1_ n2_ n3_ n4_ n5_ n6_
             (try clear hb)
             (try clear hb2)
             (try clear hk)
             (try clear hi)
             refine hK.out _ _ ⟨(blk_cell BK388.out 0).trans rfl, (blk_cell BK388.out 1).trans rfl⟩ (fun hHeld => ?_)
             clear hK K
             refine norm_ (a' := ?_) ?_ ?_
             rotate_left
             ·show Act.put _ (some 149) _ = _
              simp only [Act.put, List.setIfInBounds_toArray, List.set_cons_zero, List.set_cons_succ, i64_w, i32_w]
              rfl
             refine pure_ (i := 5) (N := some 144) (v := ?_) (a' := ?_) #[true, true, true, true, true, true, false, false, false, false, true, false, false, false, false] rfl rfl (any_of HT_.out (by kernel_rfl)) (fun _ _ _ h => h) (Or.inl ⟨by rfl, ?_⟩) ?_ ?_
             rotate_left
             ·intro w'
              go_simp
              with_reducible rfl
             rotate_left
             ·simp only [Act.put, List.setIfInBounds_toArray, List.set_cons_zero, List.set_cons_succ, i64_w, i32_w]
              rfl
             refine pure_ (i := 6) (N := some 150) (v := ?_) (a' := ?_) #[true, true, true, true, true, true, true, false, false, false, true, false, false, false, false] rfl rfl (any_of HT_.out (by kernel_rfl)) (fun _ _ _ h => h) (Or.inl ⟨by rfl, ?_⟩) ?_ ?_
             rotate_left
             ·intro w'
              go_simp
              with_reducible rfl
             rotate_left
             ·simp only [Act.put, List.setIfInBounds_toArray, List.set_cons_zero, List.set_cons_succ, i64_w, i32_w]
              rfl
             refine pure_ (i := 7) (N := some 151) (v := ?_) (a' := ?_) #[true, true, true, true, true, true, true, true, false, false, true, false, false, false, false] rfl rfl (any_of HT_.out (by kernel_rfl)) (fun _ _ _ h => h) (Or.inl ⟨by rfl, ?_⟩) ?_ ?_
             rotate_left
             ·intro w'
              go_simp
              with_reducible rfl
             rotate_left
             ·simp only [Act.put, List.setIfInBounds_toArray, List.set_cons_zero, List.set_cons_succ, i64_w, i32_w]
              rfl
             refine pure_ (i := 8) (N := some 152) (v := ?_) (a' := ?_) #[true, true, true, true, true, true, true, true, true, false, true, false, false, false, false] rfl rfl (any_of HT_.out (by kernel_rfl)) (fun _ _ _ h => h) (Or.inl ⟨by rfl, ?_⟩) ?_ ?_
             rotate_left
             ·intro w'
              go_simp
              with_reducible rfl
             rotate_left
             ·simp only [Act.put, List.setIfInBounds_toArray, List.set_cons_zero, List.set_cons_succ, i64_w, i32_w]
              rfl
             refine pure_ (i := 9) (N := some 153) (v := ?_) (a' := ?_) #[true, true, true, true, true, true, true, true, true, true, true, false, false, false, false] rfl rfl (any_of HT_.out (by kernel_rfl)) (fun _ _ _ h => h) (Or.inl ⟨by rfl, ?_⟩) ?_ ?_
             rotate_left
             ·intro w'
              go_simp
              with_reducible rfl
             rotate_left
             ·simp only [Act.put, List.setIfInBounds_toArray, List.set_cons_zero, List.set_cons_succ, i64_w, i32_w]
              rfl
             exact norm_ (by simp only [putAll, Act.put, List.setIfInBounds_toArray, List.set_cons_zero, List.set_cons_succ]) (hCont (.slice Ao86 t419.length co86, gb427) _ ⟨hHeld, (by (with_reducible repeat (first | apply Kd.R_alloc | apply Kd.R_drewN | apply Kd.R_drew)); exact Kd.R_mono HO412.out (fun _ hk => hk.2)), (by (with_reducible repeat (first | apply Kd.R_alloc | apply Kd.R_drewN | apply Kd.R_drew)); exact Kd.R_mono HO421.out (fun _ hk => hk.2)), (bk_ BK388.out), (bk_ BK395.out), (bk_ BK418.out), (bk_ BK427.out), GW427.out, GE427.out, NB388_427.out, NB427_388.out, NB395_427.out, NB427_395.out, NB418_427.out, NB427_418.out, (hb_ HB.out)⟩)
           ·skip
            refine box_step ?hg (N := 20) ?hd (cs := #[.int .i64 0, .int .i64 0]) (t := 23) ?hr ?_; (case hd => rfl); (case hg => rfl); (case hr => first | (go_simp; done) | (go_simp; rfl))
            intro gb427 hg w84 hbox hb
            have n0_ := Aside0.mk (Kd.R_below (kr_ (HO412.out)) hb)
            have n1_ := Aside0.mk (bkb_ BK388.out hb)
            have n2_ := Aside0.mk (bkb_ BK395.out hb)
            have n3_ := Aside0.mk (bkb_ BK418.out hb)
            have n4_ := Aside0.mk (below_step (hb_ HB.out) hb)
            have n5_ := Aside0.mk (hbox)
            have n6_ := Aside0.mk ((by rw [hg]; exact (below_size (hb_ HB.out)) : w.heap.size ≤ gb427))
            have n7_ := Aside0.mk ((by rw [hg]; exact (below_size (hb_ HB.out)) : w.heap.size ≤ gb427))
            have n8_ := Aside0.mk ((by rw [hg]; exact Nat.ne_of_lt (bkl_ BK388.out) : gb388 ≠ gb427))
            have n9_ := Aside0.mk ((by rw [hg]; exact Nat.ne_of_gt (bkl_ BK388.out) : gb427 ≠ gb388))
            have n10_ := Aside0.mk ((by rw [hg]; exact Nat.ne_of_lt (bkl_ BK395.out) : gb395 ≠ gb427))
            have n11_ := Aside0.mk ((by rw [hg]; exact Nat.ne_of_gt (bkl_ BK395.out) : gb427 ≠ gb395))
            have n12_ := Aside0.mk ((by rw [hg]; exact Nat.ne_of_lt (bkl_ BK418.out) : gb418 ≠ gb427))
            have n13_ := Aside0.mk ((by rw [hg]; exact Nat.ne_of_gt (bkl_ BK418.out) : gb427 ≠ gb418))
            clear HO412
            clear BK388
            clear BK395
            clear BK418
            clear HB
            have HO412 := n0_
            have BK388 := n1_
            have BK395 := n2_
            have BK418 := n3_
            have HB := n4_
            have BK427 := n5_
            have GW427 := n6_
            have GE427 := n7_
            have NB388_427 := n8_
            have NB427_388 := n9_
            have NB395_427 := n10_
            have NB427_395 := n11_
            have NB418_427 := n12_
            have NB427_418 := n13_
            clear n0_ n1_ n2_ n3_ n4_ n5_ n6_ n7_ n8_ n9_ n10_ n11_ n12_ n13_
            clear hb hbox hg
            refine hK.out _ _ ⟨(blk_cell BK388.out 0).trans rfl, (blk_cell BK388.out 1).trans rfl⟩ (fun hHeld => ?_)
            clear hK K
            refine norm_ (a' := ?_) ?_ ?_
            rotate_left
            ·show Act.put _ (some 20) _ = _
             simp only [Act.put, List.setIfInBounds_toArray, List.set_cons_zero, List.set_cons_succ, i64_w, i32_w]
             rfl
            refine one_ (i := 1) (N := some 146) #[true, true, true, true, false, false, false, false, false, false, true, false, false, false, false] rfl rfl (one_of HT_.out (by kernel_rfl)) (by decide) (fun K hK => ?_)
            refine goes_ Try.func11 (by kernel_rfl) rfl #[.slice A0 l0.length c0] (by rfl) rfl rfl al_ ?_
            with_reducible refine (comfitlaw06_Of.calls kj58 _ _ l0 t419 _ ?side1 ?side2 A71.out).mono ?_
            (case side1 => exact kc_ (Kd.C_below HR0.out HB.out))
            (case side2 => exact HC0.out)
            rintro e w85 ⟨v420, rfl, ho0, hb⟩
            refine ⟨_, rfl, ?_⟩
            have n0_ := Aside0.mk (Kd.R_elder' (kr_ (HO412.out)) (Kd.R_base ho0) hb)
            have n1_ := Aside0.mk (Kd.R_lower (Kd.R_new' ho0 (Kd.R_lt (kr_ (HO412.out)))) (below_size (hb_ HB.out)))
            have n2_ := Aside0.mk (bkb_ BK388.out hb)
            have n3_ := Aside0.mk (bkb_ BK395.out hb)
            have n4_ := Aside0.mk (bkb_ BK418.out hb)
            have n5_ := Aside0.mk (bkb_ BK427.out hb)
            have n6_ := Aside0.mk (below_step (hb_ HB.out) hb)
            clear HO412
            clear BK388
            clear BK395
            clear BK418
            clear BK427
            clear HB
            have HO412 := n0_
            have HO421 := n1_
            have BK388 := n2_
            have BK395 := n3_
            have BK418 := n4_
            have BK427 := n5_
            have HB := n6_
            clear n0_ n1_ n2_ n3_ n4_ n5_ n6_
            (try clear hb)
            (try clear hb2)
            (try clear hk)
            (try clear hi)
            (try clear ho0)
            obtain ⟨Ao86, co86, eo86⟩ := Kd.R_slice HO421.out
            (first | subst eo86 | (injection eo86 with f1_ f2_ f3_; have f4_ := f1_.symm; have f5_ := f3_.symm; clear f1_ f2_ f3_; subst f4_; subst f5_))
            refine hK.out _ _ ⟨(blk_cell BK388.out 0).trans rfl, (blk_cell BK388.out 1).trans rfl⟩ (fun hHeld => ?_)
            clear hK K
            refine norm_ (a' := ?_) ?_ ?_
            rotate_left
            ·show Act.put _ (some 146) _ = _
             simp only [Act.put, List.setIfInBounds_toArray, List.set_cons_zero, List.set_cons_succ, i64_w, i32_w]
             rfl
            refine one_ (i := 4) (N := some 149) #[true, true, true, true, true, false, false, false, false, false, true, false, false, false, false] rfl rfl (one_of HT_.out (by kernel_rfl)) (by decide) (fun K hK => ?_)
            refine goes_ Try.func10 (by kernel_rfl) rfl #[.slice Ao86 t419.length co86, .agg #[.int .i64 a1_0, .int .i64 a1_1], .int .i64 (wrap64 (Int.tmod (IntKind.u64.wrap (a3)) 201))] (by rfl) rfl rfl al_ ?_
            with_reducible refine (tags_Go.calls kj58 _ _ t419 a1_0 a1_1 (wrap64 (Int.tmod (IntKind.u64.wrap (a3)) 201)) t422 t423 t424 t425 t426 _ ?side1 ?side2 A72.out).mono ?_
            (case side1 => exact kc_ (Kd.R_reads' HO421.out).2.2)
            (case side2 => exact (Kd.R_reads' HO421.out).2.1)
            rintro e w87 ⟨rfl, hb⟩
            refine ⟨_, rfl, ?_⟩
            have n0_ := Aside0.mk (Kd.R_below (kr_ (HO412.out)) hb)
            have n1_ := Aside0.mk (Kd.R_below (kr_ (HO421.out)) hb)
            have n2_ := Aside0.mk (bkb_ BK388.out hb)
            have n3_ := Aside0.mk (bkb_ BK395.out hb)
            have n4_ := Aside0.mk (bkb_ BK418.out hb)
            have n5_ := Aside0.mk (bkb_ BK427.out hb)
            have n6_ := Aside0.mk (below_step (hb_ HB.out) hb)
            clear HO412
            clear HO421
            clear BK388
            clear BK395
            clear BK418
            clear BK427
            clear HB
            have HO412 := n0_
            have HO421 := n1_
            have BK388 := n2_
            have BK395 := n3_
            have BK418 := n4_
            have BK427 := n5_
            have HB := n6_
            clear n0_ n1_ n2_ n3_ n4_ n5_ n6_
            (try clear hb)
            (try clear hb2)
            (try clear hk)
            (try clear hi)
            refine hK.out _ _ ⟨(blk_cell BK388.out 0).trans rfl, (blk_cell BK388.out 1).trans rfl⟩ (fun hHeld => ?_)
            clear hK K
            refine norm_ (a' := ?_) ?_ ?_
            rotate_left
            ·show Act.put _ (some 149) _ = _
             simp only [Act.put, List.setIfInBounds_toArray, List.set_cons_zero, List.set_cons_succ, i64_w, i32_w]
             rfl
            refine pure_ (i := 5) (N := some 144) (v := ?_) (a' := ?_) #[true, true, true, true, true, true, false, false, false, false, true, false, false, false, false] rfl rfl (any_of HT_.out (by kernel_rfl)) (fun _ _ _ h => h) (Or.inl ⟨by rfl, ?_⟩) ?_ ?_
            rotate_left
            ·intro w'
             go_simp
             with_reducible rfl
            rotate_left
            ·simp only [Act.put, List.setIfInBounds_toArray, List.set_cons_zero, List.set_cons_succ, i64_w, i32_w]
             rfl
            refine pure_ (i := 6) (N := some 150) (v := ?_) (a' := ?_) #[true, true, true, true, true, true, true, false, false, false, true, false, false, false, false] rfl rfl (any_of HT_.out (by kernel_rfl)) (fun _ _ _ h => h) (Or.inl ⟨by rfl, ?_⟩) ?_ ?_
            rotate_left
            ·intro w'
             go_simp
             with_reducible rfl
            rotate_left
            ·simp only [Act.put, List.setIfInBounds_toArray, List.set_cons_zero, List.set_cons_succ, i64_w, i32_w]
             rfl
            refine pure_ (i := 7) (N := some 151) (v := ?_) (a' := ?_) #[true, true, true, true, true, true, true, true, false, false, true, false, false, false, false] rfl rfl (any_of HT_.out (by kernel_rfl)) (fun _ _ _ h => h) (Or.inl ⟨by rfl, ?_⟩) ?_ ?_
            rotate_left
            ·intro w'
             go_simp
             with_reducible rfl
            rotate_left
            ·simp only [Act.put, List.setIfInBounds_toArray, List.set_cons_zero, List.set_cons_succ, i64_w, i32_w]
             rfl
            refine pure_ (i := 8) (N := some 152) (v := ?_) (a' := ?_) #[true, true, true, true, true, true, true, true, true, false, true, false, false, false, false] rfl rfl (any_of HT_.out (by kernel_rfl)) (fun _ _ _ h => h) (Or.inl ⟨by rfl, ?_⟩) ?_ ?_
            rotate_left
            ·intro w'
             go_simp
             with_reducible rfl
            rotate_left
            ·simp only [Act.put, List.setIfInBounds_toArray, List.set_cons_zero, List.set_cons_succ, i64_w, i32_w]
             rfl
            refine pure_ (i := 9) (N := some 153) (v := ?_) (a' := ?_) #[true, true, true, true, true, true, true, true, true, true, true, false, false, false, false] rfl rfl (any_of HT_.out (by kernel_rfl)) (fun _ _ _ h => h) (Or.inl ⟨by rfl, ?_⟩) ?_ ?_
            rotate_left
            ·intro w'
             go_simp
             with_reducible rfl
            rotate_left
            ·simp only [Act.put, List.setIfInBounds_toArray, List.set_cons_zero, List.set_cons_succ, i64_w, i32_w]
             rfl
            exact norm_ (by simp only [putAll, Act.put, List.setIfInBounds_toArray, List.set_cons_zero, List.set_cons_succ]) (hCont (.slice Ao86 t419.length co86, gb427) _ ⟨hHeld, (by (with_reducible repeat (first | apply Kd.R_alloc | apply Kd.R_drewN | apply Kd.R_drew)); exact Kd.R_mono HO412.out (fun _ hk => hk.2)), (by (with_reducible repeat (first | apply Kd.R_alloc | apply Kd.R_drewN | apply Kd.R_drew)); exact Kd.R_mono HO421.out (fun _ hk => hk.2)), (bk_ BK388.out), (bk_ BK395.out), (bk_ BK418.out), (bk_ BK427.out), GW427.out, GE427.out, NB388_427.out, NB427_388.out, NB395_427.out, NB427_395.out, NB418_427.out, NB427_418.out, (hb_ HB.out)⟩)
          rintro ⟨v420, gb427⟩ w88 ⟨hS_, h0_, h1_, h2_, h3_, h4_, h5_, h6_, h7_, h8_, h9_, h10_, h11_, h12_, h13_, h14_⟩
          have n0_ : Aside0 (Kd.R k57 57 w88 w.heap.size (fun k_ => some k_ ≠ (v420 : Value).ownBlock) v411 t410) := ⟨h0_⟩
          have n1_ : Aside0 (Kd.R k57 57 w88 w.heap.size (fun k_ => some k_ ≠ (v411 : Value).ownBlock) v420 t419) := ⟨h1_⟩
          have n2_ : Aside0 (w88.heap[gb388]? = some (.cells #[.int .i64 a1_0, .int .i64 a1_1] 23 (0, 0))) := ⟨h2_⟩
          have n3_ : Aside0 (w88.heap[gb395]? = some (.cells #[.int .i64 t392, .int .i64 t393] 23 (0, 0))) := ⟨h3_⟩
          have n4_ : Aside0 (w88.heap[gb418]? = some (.cells #[.int .i64 t414, .int .i64 t415] 23 (0, 0))) := ⟨h4_⟩
          have n5_ : Aside0 (w88.heap[gb427]? = some (.cells #[.int .i64 0, .int .i64 0] 23 (0, 0))) := ⟨h5_⟩
          have n6_ : Aside0 (w.heap.size ≤ gb427) := ⟨h6_⟩
          have n7_ : Aside0 (w.heap.size ≤ gb427) := ⟨h7_⟩
          have n8_ : Aside0 (gb388 ≠ gb427) := ⟨h8_⟩
          have n9_ : Aside0 (gb427 ≠ gb388) := ⟨h9_⟩
          have n10_ : Aside0 (gb395 ≠ gb427) := ⟨h10_⟩
          have n11_ : Aside0 (gb427 ≠ gb395) := ⟨h11_⟩
          have n12_ : Aside0 (gb418 ≠ gb427) := ⟨h12_⟩
          have n13_ : Aside0 (gb427 ≠ gb418) := ⟨h13_⟩
          have n14_ : Aside0 (Below w.heap.size w w88) := ⟨h14_⟩
          clear HO412
          clear BK388
          clear BK395
          clear BK418
          clear HB
          clear h0_ h1_ h2_ h3_ h4_ h5_ h6_ h7_ h8_ h9_ h10_ h11_ h12_ h13_ h14_
          have HO412 := n0_
          have HO421 := n1_
          have BK388 := n2_
          have BK395 := n3_
          have BK418 := n4_
          have BK427 := n5_
          have GW427 := n6_
          have GE427 := n7_
          have NB388_427 := n8_
          have NB427_388 := n9_
          have NB395_427 := n10_
          have NB427_395 := n11_
          have NB418_427 := n12_
          have NB427_418 := n13_
          have HB := n14_
          clear n0_ n1_ n2_ n3_ n4_ n5_ n6_ n7_ n8_ n9_ n10_ n11_ n12_ n13_ n14_
          have hHeld : w88.cell? ⟨gb388, 0, none⟩ = some (.int .i64 a1_0) ∧ w88.cell? ⟨gb388, 1, none⟩ = some (.int .i64 a1_1) := hS_
          refine norm_ (a' := ?_) ?_ ?_
          rotate_left
          ·simp only [putAll, Act.put, List.setIfInBounds_toArray, List.set_cons_zero, List.set_cons_succ]
           rfl
          refine pure_ (i := 11) (N := some 19) (v := ?_) (a' := ?_) #[true, true, true, true, true, true, true, true, true, true, true, true, false, false, false] rfl rfl (any_of HT_.out (by kernel_rfl)) (fun _ _ _ h => h) (Or.inl ⟨by rfl, ?_⟩) ?_ ?_
          rotate_left
          ·intro w'
           go_simp
           with_reducible rfl
          rotate_left
          ·simp only [Act.put, List.setIfInBounds_toArray, List.set_cons_zero, List.set_cons_succ, i64_w, i32_w]
           rfl
          refine one_ (i := 12) (N := none) #[true, true, true, true, true, true, true, true, true, true, true, true, true, false, false] rfl rfl (one_of HT_.out (by kernel_rfl)) (by decide) (fun K hK => ?_)
          have hs89 : w88.cell? ⟨gb427, 0, none⟩ = some (.int .i64 0) := (blk_cell BK427.out 0).trans rfl
          have hfs89 := blk_frozen BK427.out 0
          have hns89_0 := NB388_427.out
          have hns89_1 := NB395_427.out
          have hns89_2 := NB418_427.out
          have hms89_0 := NB427_388.out
          have hms89_1 := NB427_395.out
          have hms89_2 := NB427_418.out
          have hs90 : w88.cell? ⟨gb427, 1, none⟩ = some (.int .i64 0) := (blk_cell BK427.out 1).trans rfl
          have hfs90 := blk_frozen BK427.out 1
          have hns90_0 := NB388_427.out
          have hns90_1 := NB395_427.out
          have hns90_2 := NB418_427.out
          have hms90_0 := NB427_388.out
          have hms90_1 := NB427_395.out
          have hms90_2 := NB427_418.out
          refine skip_ (w1 := ?_) (by rfl) rfl ?_ ?_
          rotate_left
          ·go_simp
           rfl
          refine hK.out _ _ ⟨((cell_far (p := ⟨gb427, _, none⟩) NB388_427.out _).trans (((cell_far (p := ⟨gb427, _, none⟩) NB388_427.out _).trans (hHeld.1)))), ((cell_far (p := ⟨gb427, _, none⟩) NB388_427.out _).trans (((cell_far (p := ⟨gb427, _, none⟩) NB388_427.out _).trans (hHeld.2))))⟩ (fun hHeld => ?_)
          clear hK K
          refine pure_ (i := 13) (N := some 21) (v := ?_) (a' := ?_) #[true, true, true, true, true, true, true, true, true, true, true, true, true, true, false] rfl rfl (any_of HT_.out (by kernel_rfl)) (fun _ _ _ h => h) (Or.inl ⟨by rfl, ?_⟩) ?_ ?_
          rotate_left
          ·intro w'
           go_simp
           with_reducible rfl
          rotate_left
          ·simp only [Act.put, List.setIfInBounds_toArray, List.set_cons_zero, List.set_cons_succ, i64_w, i32_w]
           rfl
          refine pure_ (i := 14) (N := some 22) (v := ?_) (a' := ?_) #[true, true, true, true, true, true, true, true, true, true, true, true, true, true, true] rfl rfl (any_of HT_.out (by kernel_rfl)) (fun _ _ _ h => h) (Or.inl ⟨by rfl, ?_⟩) ?_ ?_
          rotate_left
          ·intro w'
           go_simp
           with_reducible rfl
          rotate_left
          ·simp only [Act.put, List.setIfInBounds_toArray, List.set_cons_zero, List.set_cons_succ, i64_w, i32_w]
           rfl
          refine done_ (done_of HT_.out (by kernel_rfl)) ?_
          go_upto_region 18 with (fail)
          go_cut [159] (fun v159 wc => ∃ (kq : Nat) (x159_72 : Bool), v159 = .bool x159_72 ∧ Aside0 (comfitlaw06_TagsCircles.j4 kq l0 (wrap64 (Int.tmod (IntKind.u64.wrap (a2)) 201)) (wrap64 (Int.tmod (IntKind.u64.wrap (a3)) 201)) t394 t400 t413 t416 t422 t425 x159_72 a1_0 a1_1 t392 t393 t414 t415 t423 t424 = some r) ∧ Aside0 (kq ≤ kj58) ∧ Aside0 (wc.heap[gb388]? = some (.cells #[.int .i64 a1_0, .int .i64 a1_1] 23 (0, 0))) ∧ Aside0 (wc.heap[gb395]? = some (.cells #[.int .i64 t392, .int .i64 t393] 23 (0, 0))) ∧ Aside0 (wc.heap[gb418]? = some (.cells #[.int .i64 t414, .int .i64 t415] 23 (0, 0))) ∧ Aside0 (wc.heap[gb427]? = some (.cells #[.int .i64 t423, .int .i64 t424] 23 (0, 0))) ∧ Aside0 (Below w.heap.size w wc))
          case first =>
           have H := HC73.out
           clear HC73
           by_cases c91 : t417 = 0
           ·rw [if_pos c91] at H
            have c91b0 : (t417 == 0) = true := beq_iff_eq.mpr c91
            have c91b1 : (t417 != 0) = false := bne_eq_false_iff_eq.mpr c91
            clear c91
            (first | rw [c91b0] | (simp only [i64_w, i32_w]; rw [c91b0]) | skip)
            as_aux_lemma =>
             have H' := Aside0.mk H
             clear H
             go_wp2
             go_meet
             case rel => exact ⟨_, ((t426 != 0)), (by first | rfl | (simp; done) | (simp [*]; done)), H', ⟨by have := HJ8.out; have := HJ36.out; have := HJ58.out; first | omega | exact Nat.le_refl _⟩, ⟨by (with_reducible repeat (first | refine blk_drewN ?_ _ | refine blk_drew ?_ | refine blk_alloc ?_ _)); refine blk_far ?_ NB388_427.out _; (with_reducible repeat (first | refine blk_drewN ?_ _ | refine blk_drew ?_ | refine blk_alloc ?_ _)); refine blk_far ?_ NB388_427.out _; (with_reducible repeat (first | refine blk_drewN ?_ _ | refine blk_drew ?_ | refine blk_alloc ?_ _)); exact BK388.out⟩, ⟨by (with_reducible repeat (first | refine blk_drewN ?_ _ | refine blk_drew ?_ | refine blk_alloc ?_ _)); refine blk_far ?_ NB395_427.out _; (with_reducible repeat (first | refine blk_drewN ?_ _ | refine blk_drew ?_ | refine blk_alloc ?_ _)); refine blk_far ?_ NB395_427.out _; (with_reducible repeat (first | refine blk_drewN ?_ _ | refine blk_drew ?_ | refine blk_alloc ?_ _)); exact BK395.out⟩, ⟨by (with_reducible repeat (first | refine blk_drewN ?_ _ | refine blk_drew ?_ | refine blk_alloc ?_ _)); refine blk_far ?_ NB418_427.out _; (with_reducible repeat (first | refine blk_drewN ?_ _ | refine blk_drew ?_ | refine blk_alloc ?_ _)); refine blk_far ?_ NB418_427.out _; (with_reducible repeat (first | refine blk_drewN ?_ _ | refine blk_drew ?_ | refine blk_alloc ?_ _)); exact BK418.out⟩, ⟨by (with_reducible repeat (first | refine blk_drewN ?_ _ | refine blk_drew ?_ | refine blk_alloc ?_ _)); refine blk_put (cs := #[.int .i64 t423, .int .i64 0]) ?_ 1 _ rfl; (with_reducible repeat (first | refine blk_drewN ?_ _ | refine blk_drew ?_ | refine blk_alloc ?_ _)); refine blk_put (cs := #[.int .i64 0, .int .i64 0]) ?_ 0 _ rfl; (with_reducible repeat (first | refine blk_drewN ?_ _ | refine blk_drew ?_ | refine blk_alloc ?_ _)); exact BK427.out⟩, ⟨by repeat (first | (with_reducible first | exact HB.out | apply below_alloc | apply pw_below_drewN | apply below_drew1 | refine below_set ?_ GE388.out | refine below_set ?_ GE395.out | refine below_set ?_ GE418.out | refine below_set ?_ GE427.out) | exact HB.out)⟩⟩
           ·rw [if_neg c91] at H
            have c91b0 : (t417 == 0) = false := beq_eq_false_iff_ne.mpr c91
            have c91b1 : (t417 != 0) = true := bne_iff_ne.mpr c91
            (first | rw [c91b0] | (simp only [i64_w, i32_w]; rw [c91b0]) | skip)
            as_aux_lemma =>
             have H' := Aside0.mk H
             clear H
             go_wp2
             go_meet
             case rel => exact ⟨_, (true), (by first | rfl | (simp; done) | (simp [*]; done)), H', ⟨by have := HJ8.out; have := HJ36.out; have := HJ58.out; first | omega | exact Nat.le_refl _⟩, ⟨by (with_reducible repeat (first | refine blk_drewN ?_ _ | refine blk_drew ?_ | refine blk_alloc ?_ _)); refine blk_far ?_ NB388_427.out _; (with_reducible repeat (first | refine blk_drewN ?_ _ | refine blk_drew ?_ | refine blk_alloc ?_ _)); refine blk_far ?_ NB388_427.out _; (with_reducible repeat (first | refine blk_drewN ?_ _ | refine blk_drew ?_ | refine blk_alloc ?_ _)); exact BK388.out⟩, ⟨by (with_reducible repeat (first | refine blk_drewN ?_ _ | refine blk_drew ?_ | refine blk_alloc ?_ _)); refine blk_far ?_ NB395_427.out _; (with_reducible repeat (first | refine blk_drewN ?_ _ | refine blk_drew ?_ | refine blk_alloc ?_ _)); refine blk_far ?_ NB395_427.out _; (with_reducible repeat (first | refine blk_drewN ?_ _ | refine blk_drew ?_ | refine blk_alloc ?_ _)); exact BK395.out⟩, ⟨by (with_reducible repeat (first | refine blk_drewN ?_ _ | refine blk_drew ?_ | refine blk_alloc ?_ _)); refine blk_far ?_ NB418_427.out _; (with_reducible repeat (first | refine blk_drewN ?_ _ | refine blk_drew ?_ | refine blk_alloc ?_ _)); refine blk_far ?_ NB418_427.out _; (with_reducible repeat (first | refine blk_drewN ?_ _ | refine blk_drew ?_ | refine blk_alloc ?_ _)); exact BK418.out⟩, ⟨by (with_reducible repeat (first | refine blk_drewN ?_ _ | refine blk_drew ?_ | refine blk_alloc ?_ _)); refine blk_put (cs := #[.int .i64 t423, .int .i64 0]) ?_ 1 _ rfl; (with_reducible repeat (first | refine blk_drewN ?_ _ | refine blk_drew ?_ | refine blk_alloc ?_ _)); refine blk_put (cs := #[.int .i64 0, .int .i64 0]) ?_ 0 _ rfl; (with_reducible repeat (first | refine blk_drewN ?_ _ | refine blk_drew ?_ | refine blk_alloc ?_ _)); exact BK427.out⟩, ⟨by repeat (first | (with_reducible first | exact HB.out | apply below_alloc | apply pw_below_drewN | apply below_drew1 | refine below_set ?_ GE388.out | refine below_set ?_ GE395.out | refine below_set ?_ GE418.out | refine below_set ?_ GE427.out) | exact HB.out)⟩⟩
          case rest =>
           clear HC73
           try clear c1
           try clear p2
           try clear p6
           try clear c9
           try clear c10
           try clear c11
           try clear p64
           try clear c91
           try clear c91b0
           try clear c91b1
           obtain ⟨kq, x159_72, rfl, HA, HJ72, BK388, BK395, BK418, BK427, HB⟩ := hcut
           cases kq with
           | zero => exact absurd HA.out (by simp [comfitlaw06_TagsCircles.j4])
           | succ kj72 =>
            have H := HA.out
            clear HA
            simp only [comfitlaw06_TagsCircles.j4] at H
            by_cases c92 : x159_72 = true
            ·subst c92
             have H1 : (none) = some r := by rw [if_pos rfl] at H; exact H
             clear H
             have H := H1
             clear H1
             exact absurd H (by simp)
            ·replace c92 := Bool.eq_false_iff.mpr c92
             subst c92
             have H1 : ((comfitlaw06_Of.f kj72 l0).bind fun t428 => ((tags_CheckCircle.f kj72 t428 a1_0 a1_1 (wrap64 (Int.tmod (IntKind.u64.wrap (a2)) 201)) (wrap64 (Int.tmod (IntKind.u64.wrap (a3)) 201))).bind fun bt431 => (if bt431.2 = 0 then (if t425 < (wrap64 (Int.tmod (IntKind.u64.wrap (a3)) 201)) then (if bt431.1 = true then (comfitlaw06_TagsCircles.j5 kj72 (wrap64 (Int.tmod (IntKind.u64.wrap (a2)) 201)) (wrap64 (Int.tmod (IntKind.u64.wrap (a3)) 201)) t394 t413 t416 t422 t425 bt431.1 true t392 t393 t414 t415 t423 t424) else (comfitlaw06_TagsCircles.j5 kj72 (wrap64 (Int.tmod (IntKind.u64.wrap (a2)) 201)) (wrap64 (Int.tmod (IntKind.u64.wrap (a3)) 201)) t394 t413 t416 t422 t425 bt431.1 false t392 t393 t414 t415 t423 t424)) else (if bt431.1 = true then (if t413 = t422 then (if t423 < t414 then (comfitlaw06_TagsCircles.j5 kj72 (wrap64 (Int.tmod (IntKind.u64.wrap (a2)) 201)) (wrap64 (Int.tmod (IntKind.u64.wrap (a3)) 201)) t394 t413 t416 t422 t425 bt431.1 true t392 t393 t414 t415 t423 t424) else (if t424 < t415 then (comfitlaw06_TagsCircles.j5 kj72 (wrap64 (Int.tmod (IntKind.u64.wrap (a2)) 201)) (wrap64 (Int.tmod (IntKind.u64.wrap (a3)) 201)) t394 t413 t416 t422 t425 bt431.1 true t392 t393 t414 t415 t423 t424) else (comfitlaw06_TagsCircles.j5 kj72 (wrap64 (Int.tmod (IntKind.u64.wrap (a2)) 201)) (wrap64 (Int.tmod (IntKind.u64.wrap (a3)) 201)) t394 t413 t416 t422 t425 bt431.1 (t400 != 4) t392 t393 t414 t415 t423 t424))) else (comfitlaw06_TagsCircles.j5 kj72 (wrap64 (Int.tmod (IntKind.u64.wrap (a2)) 201)) (wrap64 (Int.tmod (IntKind.u64.wrap (a3)) 201)) t394 t413 t416 t422 t425 bt431.1 true t392 t393 t414 t415 t423 t424)) else (comfitlaw06_TagsCircles.j5 kj72 (wrap64 (Int.tmod (IntKind.u64.wrap (a2)) 201)) (wrap64 (Int.tmod (IntKind.u64.wrap (a3)) 201)) t394 t413 t416 t422 t425 bt431.1 false t392 t393 t414 t415 t423 t424))) else (comfitlaw06_TagsCircles.j5 kj72 (wrap64 (Int.tmod (IntKind.u64.wrap (a2)) 201)) (wrap64 (Int.tmod (IntKind.u64.wrap (a3)) 201)) t394 t413 t416 t422 t425 bt431.1 true t392 t393 t414 t415 t423 t424)))) = some r := by rw [if_neg (show ¬ (false = true) by decide)] at H; exact H
             clear H
             have H := H1
             clear H1
             replace H := Option.bind_eq_some_iff.mp H
             obtain ⟨t428, A930, H⟩ := H
             replace H : ((tags_CheckCircle.f kj72 t428 a1_0 a1_1 (wrap64 (Int.tmod (IntKind.u64.wrap (a2)) 201)) (wrap64 (Int.tmod (IntKind.u64.wrap (a3)) 201))).bind fun bt431 => (if bt431.2 = 0 then (if t425 < (wrap64 (Int.tmod (IntKind.u64.wrap (a3)) 201)) then (if bt431.1 = true then (comfitlaw06_TagsCircles.j5 kj72 (wrap64 (Int.tmod (IntKind.u64.wrap (a2)) 201)) (wrap64 (Int.tmod (IntKind.u64.wrap (a3)) 201)) t394 t413 t416 t422 t425 bt431.1 true t392 t393 t414 t415 t423 t424) else (comfitlaw06_TagsCircles.j5 kj72 (wrap64 (Int.tmod (IntKind.u64.wrap (a2)) 201)) (wrap64 (Int.tmod (IntKind.u64.wrap (a3)) 201)) t394 t413 t416 t422 t425 bt431.1 false t392 t393 t414 t415 t423 t424)) else (if bt431.1 = true then (if t413 = t422 then (if t423 < t414 then (comfitlaw06_TagsCircles.j5 kj72 (wrap64 (Int.tmod (IntKind.u64.wrap (a2)) 201)) (wrap64 (Int.tmod (IntKind.u64.wrap (a3)) 201)) t394 t413 t416 t422 t425 bt431.1 true t392 t393 t414 t415 t423 t424) else (if t424 < t415 then (comfitlaw06_TagsCircles.j5 kj72 (wrap64 (Int.tmod (IntKind.u64.wrap (a2)) 201)) (wrap64 (Int.tmod (IntKind.u64.wrap (a3)) 201)) t394 t413 t416 t422 t425 bt431.1 true t392 t393 t414 t415 t423 t424) else (comfitlaw06_TagsCircles.j5 kj72 (wrap64 (Int.tmod (IntKind.u64.wrap (a2)) 201)) (wrap64 (Int.tmod (IntKind.u64.wrap (a3)) 201)) t394 t413 t416 t422 t425 bt431.1 (t400 != 4) t392 t393 t414 t415 t423 t424))) else (comfitlaw06_TagsCircles.j5 kj72 (wrap64 (Int.tmod (IntKind.u64.wrap (a2)) 201)) (wrap64 (Int.tmod (IntKind.u64.wrap (a3)) 201)) t394 t413 t416 t422 t425 bt431.1 true t392 t393 t414 t415 t423 t424)) else (comfitlaw06_TagsCircles.j5 kj72 (wrap64 (Int.tmod (IntKind.u64.wrap (a2)) 201)) (wrap64 (Int.tmod (IntKind.u64.wrap (a3)) 201)) t394 t413 t416 t422 t425 bt431.1 false t392 t393 t414 t415 t423 t424))) else (comfitlaw06_TagsCircles.j5 kj72 (wrap64 (Int.tmod (IntKind.u64.wrap (a2)) 201)) (wrap64 (Int.tmod (IntKind.u64.wrap (a3)) 201)) t394 t413 t416 t422 t425 bt431.1 true t392 t393 t414 t415 t423 t424))) = some r := H
             have A93 := Aside0.mk A930
             clear A930
             replace H := Option.bind_eq_some_iff.mp H
             obtain ⟨⟨t431, t432⟩, A940, H⟩ := H
             replace H : (if t432 = 0 then (if t425 < (wrap64 (Int.tmod (IntKind.u64.wrap (a3)) 201)) then (if t431 = true then (comfitlaw06_TagsCircles.j5 kj72 (wrap64 (Int.tmod (IntKind.u64.wrap (a2)) 201)) (wrap64 (Int.tmod (IntKind.u64.wrap (a3)) 201)) t394 t413 t416 t422 t425 t431 true t392 t393 t414 t415 t423 t424) else (comfitlaw06_TagsCircles.j5 kj72 (wrap64 (Int.tmod (IntKind.u64.wrap (a2)) 201)) (wrap64 (Int.tmod (IntKind.u64.wrap (a3)) 201)) t394 t413 t416 t422 t425 t431 false t392 t393 t414 t415 t423 t424)) else (if t431 = true then (if t413 = t422 then (if t423 < t414 then (comfitlaw06_TagsCircles.j5 kj72 (wrap64 (Int.tmod (IntKind.u64.wrap (a2)) 201)) (wrap64 (Int.tmod (IntKind.u64.wrap (a3)) 201)) t394 t413 t416 t422 t425 t431 true t392 t393 t414 t415 t423 t424) else (if t424 < t415 then (comfitlaw06_TagsCircles.j5 kj72 (wrap64 (Int.tmod (IntKind.u64.wrap (a2)) 201)) (wrap64 (Int.tmod (IntKind.u64.wrap (a3)) 201)) t394 t413 t416 t422 t425 t431 true t392 t393 t414 t415 t423 t424) else (comfitlaw06_TagsCircles.j5 kj72 (wrap64 (Int.tmod (IntKind.u64.wrap (a2)) 201)) (wrap64 (Int.tmod (IntKind.u64.wrap (a3)) 201)) t394 t413 t416 t422 t425 t431 (t400 != 4) t392 t393 t414 t415 t423 t424))) else (comfitlaw06_TagsCircles.j5 kj72 (wrap64 (Int.tmod (IntKind.u64.wrap (a2)) 201)) (wrap64 (Int.tmod (IntKind.u64.wrap (a3)) 201)) t394 t413 t416 t422 t425 t431 true t392 t393 t414 t415 t423 t424)) else (comfitlaw06_TagsCircles.j5 kj72 (wrap64 (Int.tmod (IntKind.u64.wrap (a2)) 201)) (wrap64 (Int.tmod (IntKind.u64.wrap (a3)) 201)) t394 t413 t416 t422 t425 t431 false t392 t393 t414 t415 t423 t424))) else (comfitlaw06_TagsCircles.j5 kj72 (wrap64 (Int.tmod (IntKind.u64.wrap (a2)) 201)) (wrap64 (Int.tmod (IntKind.u64.wrap (a3)) 201)) t394 t413 t416 t422 t425 t431 true t392 t393 t414 t415 t423 t424)) = some r := H
             have A94 := Aside0.mk A940
             clear A940
             have HC95 := Aside0.mk H
             clear H
             try go_wp2
             have n0_ := Aside0.mk (blk_drew BK388.out)
             have n1_ := Aside0.mk (blk_drew BK395.out)
             have n2_ := Aside0.mk (blk_drew BK418.out)
             have n3_ := Aside0.mk (blk_drew BK427.out)
             have n4_ := Aside0.mk (below_drew1 HB.out)
             clear BK388
             clear BK395
             clear BK418
             clear BK427
             clear HB
             have BK388 := n0_
             have BK395 := n1_
             have BK418 := n2_
             have BK427 := n3_
             have HB := n4_
             clear n0_ n1_ n2_ n3_ n4_
             refine start_ (n := 12) (S := fun w' => w'.cell? ⟨gb388, 0, none⟩ = some (.int .i64 a1_0) ∧ w'.cell? ⟨gb388, 1, none⟩ = some (.int .i64 a1_1)) (ds := []) #[false, false, false, false, false, false, false, false, false, false, false, false] (by kernel_rfl) rfl rfl ⟨(blk_cell BK388.out 0).trans rfl, (blk_cell BK388.out 1).trans rfl⟩ (fun hHeld => ?_); refine with_tabW comfitlaw06_TagsCircles.tab20 comfitlaw06_TagsCircles.bits20 (fun HT_ HW_ => ?_)
             generalize wc.drew = w96 at BK388 BK395 BK418 BK427 HB hHeld ⊢
             refine pure_ (i := 0) (N := some 161) (v := ?_) (a' := ?_) #[true, false, false, false, false, false, false, false, false, false, false, false] rfl rfl (any_of HT_.out (by kernel_rfl)) (fun _ _ _ h => h) (Or.inl ⟨by rfl, ?_⟩) ?_ ?_
             rotate_left
             ·intro w'
              go_simp
              with_reducible rfl
             rotate_left
             ·simp only [Act.put, List.setIfInBounds_toArray, List.set_cons_zero, List.set_cons_succ, i64_w, i32_w]
              rfl
             refine pure_ (i := 3) (N := some 164) (v := ?_) (a' := ?_) #[true, false, false, true, false, false, false, false, false, false, false, false] rfl rfl (any_of HT_.out (by kernel_rfl)) (fun _ _ _ h => h) (Or.inl ⟨by rfl, ?_⟩) ?_ ?_
             rotate_left
             ·intro w'
              go_simp
              with_reducible rfl
             rotate_left
             ·simp only [Act.put, List.setIfInBounds_toArray, List.set_cons_zero, List.set_cons_succ, i64_w, i32_w]
              rfl
             refine pure_ (i := 4) (N := some 165) (v := ?_) (a' := ?_) #[true, false, false, true, true, false, false, false, false, false, false, false] rfl rfl (any_of HT_.out (by kernel_rfl)) (fun _ _ _ h => h) (Or.inl ⟨by rfl, ?_⟩) ?_ ?_
             rotate_left
             ·intro w'
              go_simp
              with_reducible rfl
             rotate_left
             ·simp only [Act.put, List.setIfInBounds_toArray, List.set_cons_zero, List.set_cons_succ, i64_w, i32_w]
              rfl
             refine pure_ (i := 5) (N := some 166) (v := ?_) (a' := ?_) #[true, false, false, true, true, true, false, false, false, false, false, false] rfl rfl (any_of HT_.out (by kernel_rfl)) (fun _ _ _ h => h) (Or.inl ⟨by rfl, ?_⟩) ?_ ?_
             rotate_left
             ·intro w'
              go_simp
              with_reducible rfl
             rotate_left
             ·simp only [Act.put, List.setIfInBounds_toArray, List.set_cons_zero, List.set_cons_succ, i64_w, i32_w]
              rfl
             refine take_ (i := 2) (N := some 163) (v := ?_) (a' := ?_) #[true, false, true, true, true, true, false, false, false, false, false, false] rfl rfl (take_ofW HT_.out HW_.out (by kernel_rfl)) (fun _ _ _ h => h) (Or.inl ⟨by rfl, ?_⟩) hHeld ?_ ?_
             rotate_left
             ·rintro w' ⟨s0, s1⟩
              go_simp
              with_reducible rfl
             rotate_left
             ·simp only [Act.put, List.setIfInBounds_toArray, List.set_cons_zero, List.set_cons_succ, i64_w, i32_w]
              rfl
             refine one_ (i := 1) (N := some 162) #[true, true, true, true, true, true, false, false, false, false, false, false] rfl rfl (one_of HT_.out (by kernel_rfl)) (by decide) (fun K hK => ?_)
             refine goes_ Try.func11 (by kernel_rfl) rfl #[.slice A0 l0.length c0] (by rfl) rfl rfl al_ ?_
             with_reducible refine (comfitlaw06_Of.calls kj72 _ _ l0 t428 _ ?side1 ?side2 A93.out).mono ?_
             (case side1 => exact kc_ (Kd.C_below HR0.out HB.out))
             (case side2 => exact HC0.out)
             rintro e w97 ⟨v429, rfl, ho0, hb⟩
             refine ⟨_, rfl, ?_⟩
             have n0_ := Aside0.mk (Kd.R_lower ho0 (below_size (hb_ HB.out)))
             have n1_ := Aside0.mk (bkb_ BK388.out hb)
             have n2_ := Aside0.mk (bkb_ BK395.out hb)
             have n3_ := Aside0.mk (bkb_ BK418.out hb)
             have n4_ := Aside0.mk (bkb_ BK427.out hb)
             have n5_ := Aside0.mk (below_step (hb_ HB.out) hb)
             clear BK388
             clear BK395
             clear BK418
             clear BK427
             clear HB
             have HO430 := n0_
             have BK388 := n1_
             have BK395 := n2_
             have BK418 := n3_
             have BK427 := n4_
             have HB := n5_
             clear n0_ n1_ n2_ n3_ n4_ n5_
             (try clear hb)
             (try clear hb2)
             (try clear hk)
             (try clear hi)
             (try clear ho0)
             obtain ⟨Ao98, co98, eo98⟩ := Kd.R_slice HO430.out
             (first | subst eo98 | (injection eo98 with f1_ f2_ f3_; have f4_ := f1_.symm; have f5_ := f3_.symm; clear f1_ f2_ f3_; subst f4_; subst f5_))
             refine hK.out _ _ ⟨(blk_cell BK388.out 0).trans rfl, (blk_cell BK388.out 1).trans rfl⟩ (fun hHeld => ?_)
             clear hK K
             refine norm_ (a' := ?_) ?_ ?_
             rotate_left
             ·show Act.put _ (some 162) _ = _
              simp only [Act.put, List.setIfInBounds_toArray, List.set_cons_zero, List.set_cons_succ, i64_w, i32_w]
              rfl
             refine one_ (i := 6) (N := some 167) #[true, true, true, true, true, true, true, false, false, false, false, false] rfl rfl (one_of HT_.out (by kernel_rfl)) (by decide) (fun K hK => ?_)
             refine goes_ Try.func18 (by kernel_rfl) rfl #[.slice Ao98 t428.length co98, .agg #[.int .i64 a1_0, .int .i64 a1_1], .agg #[.int .i64 (wrap64 (Int.tmod (IntKind.u64.wrap (a2)) 201)), .int .i64 (wrap64 (Int.tmod (IntKind.u64.wrap (a3)) 201))]] (by rfl) rfl rfl al_ ?_
             with_reducible refine (tags_CheckCircle.calls kj72 _ _ t428 a1_0 a1_1 (wrap64 (Int.tmod (IntKind.u64.wrap (a2)) 201)) (wrap64 (Int.tmod (IntKind.u64.wrap (a3)) 201)) t431 t432 _ ?side1 ?side2 A94.out).mono ?_
             (case side1 => exact kc_ (Kd.R_reads' HO430.out).2.2)
             (case side2 => exact (Kd.R_reads' HO430.out).2.1)
             rintro e w99 ⟨rfl, hb⟩
             refine ⟨_, rfl, ?_⟩
             have n0_ := Aside0.mk (Kd.R_below (kr_ (HO430.out)) hb)
             have n1_ := Aside0.mk (bkb_ BK388.out hb)
             have n2_ := Aside0.mk (bkb_ BK395.out hb)
             have n3_ := Aside0.mk (bkb_ BK418.out hb)
             have n4_ := Aside0.mk (bkb_ BK427.out hb)
             have n5_ := Aside0.mk (below_step (hb_ HB.out) hb)
             clear HO430
             clear BK388
             clear BK395
             clear BK418
             clear BK427
             clear HB
             have HO430 := n0_
             have BK388 := n1_
             have BK395 := n2_
             have BK418 := n3_
             have BK427 := n4_
             have HB := n5_
             clear n0_ n1_ n2_ n3_ n4_ n5_
             (try clear hb)
             (try clear hb2)
             (try clear hk)
             (try clear hi)
             refine hK.out _ _ ⟨(blk_cell BK388.out 0).trans rfl, (blk_cell BK388.out 1).trans rfl⟩ (fun hHeld => ?_)
             clear hK K
             refine norm_ (a' := ?_) ?_ ?_
             rotate_left
             ·show Act.put _ (some 167) _ = _
              simp only [Act.put, List.setIfInBounds_toArray, List.set_cons_zero, List.set_cons_succ, i64_w, i32_w]
              rfl
             refine pure_ (i := 7) (N := some 160) (v := ?_) (a' := ?_) #[true, true, true, true, true, true, true, true, false, false, false, false] rfl rfl (any_of HT_.out (by kernel_rfl)) (fun _ _ _ h => h) (Or.inl ⟨by rfl, ?_⟩) ?_ ?_
             rotate_left
             ·intro w'
              go_simp
              with_reducible rfl
             rotate_left
             ·simp only [Act.put, List.setIfInBounds_toArray, List.set_cons_zero, List.set_cons_succ, i64_w, i32_w]
              rfl
             refine pure_ (i := 8) (N := some 168) (v := ?_) (a' := ?_) #[true, true, true, true, true, true, true, true, true, false, false, false] rfl rfl (any_of HT_.out (by kernel_rfl)) (fun _ _ _ h => h) (Or.inl ⟨by rfl, ?_⟩) ?_ ?_
             rotate_left
             ·intro w'
              go_simp
              with_reducible rfl
             rotate_left
             ·simp only [Act.put, List.setIfInBounds_toArray, List.set_cons_zero, List.set_cons_succ, i64_w, i32_w]
              rfl
             refine pure_ (i := 9) (N := some 169) (v := ?_) (a' := ?_) #[true, true, true, true, true, true, true, true, true, true, false, false] rfl rfl (any_of HT_.out (by kernel_rfl)) (fun _ _ _ h => h) (Or.inl ⟨by rfl, ?_⟩) ?_ ?_
             rotate_left
             ·intro w'
              go_simp
              with_reducible rfl
             rotate_left
             ·simp only [Act.put, List.setIfInBounds_toArray, List.set_cons_zero, List.set_cons_succ, i64_w, i32_w]
              rfl
             refine pure_ (i := 10) (N := some 23) (v := ?_) (a' := ?_) #[true, true, true, true, true, true, true, true, true, true, true, false] rfl rfl (any_of HT_.out (by kernel_rfl)) (fun _ _ _ h => h) (Or.inl ⟨by rfl, ?_⟩) ?_ ?_
             rotate_left
             ·intro w'
              go_simp
              with_reducible rfl
             rotate_left
             ·simp only [Act.put, List.setIfInBounds_toArray, List.set_cons_zero, List.set_cons_succ, i64_w, i32_w]
              rfl
             refine pure_ (i := 11) (N := some 24) (v := ?_) (a' := ?_) #[true, true, true, true, true, true, true, true, true, true, true, true] rfl rfl (any_of HT_.out (by kernel_rfl)) (fun _ _ _ h => h) (Or.inl ⟨by rfl, ?_⟩) ?_ ?_
             rotate_left
             ·intro w'
              go_simp
              with_reducible rfl
             rotate_left
             ·simp only [Act.put, List.setIfInBounds_toArray, List.set_cons_zero, List.set_cons_succ, i64_w, i32_w]
              rfl
             refine done_ (done_of HT_.out (by kernel_rfl)) ?_
             go_upto_region 21 with (fail)
             go_cut [205] (fun v205 wc => ∃ (kq : Nat) (x205_94 : Bool), v205 = .bool x205_94 ∧ Aside0 (comfitlaw06_TagsCircles.j5 kq (wrap64 (Int.tmod (IntKind.u64.wrap (a2)) 201)) (wrap64 (Int.tmod (IntKind.u64.wrap (a3)) 201)) t394 t413 t416 t422 t425 t431 x205_94 t392 t393 t414 t415 t423 t424 = some r) ∧ Aside0 (kq ≤ kj72) ∧ Aside0 (wc.heap[gb388]? = some (.cells #[.int .i64 a1_0, .int .i64 a1_1] 23 (0, 0))) ∧ Aside0 (wc.heap[gb395]? = some (.cells #[.int .i64 t392, .int .i64 t393] 23 (0, 0))) ∧ Aside0 (wc.heap[gb418]? = some (.cells #[.int .i64 t414, .int .i64 t415] 23 (0, 0))) ∧ Aside0 (wc.heap[gb427]? = some (.cells #[.int .i64 t423, .int .i64 t424] 23 (0, 0))) ∧ Aside0 (Below w.heap.size w wc))
             case first =>
              have H := HC95.out
              clear HC95
              by_cases c100 : t432 = 0
              ·rw [if_pos c100] at H
               have c100b0 : (t432 == 0) = true := beq_iff_eq.mpr c100
               have c100b1 : (t432 != 0) = false := bne_eq_false_iff_eq.mpr c100
               clear c100
               (first | rw [c100b0] | (simp only [i64_w, i32_w]; rw [c100b0]) | skip)
               by_cases c101 : t425 < (wrap64 (Int.tmod (IntKind.u64.wrap (a3)) 201))
               ·rw [if_pos c101] at H
                have c101b0 : decide (t425 < (wrap64 (Int.tmod (IntKind.u64.wrap (a3)) 201))) = true := decide_eq_true c101
                clear c101
                by_cases c102 : t431 = true
                ·subst c102
                 have H1 : (comfitlaw06_TagsCircles.j5 kj72 (wrap64 (Int.tmod (IntKind.u64.wrap (a2)) 201)) (wrap64 (Int.tmod (IntKind.u64.wrap (a3)) 201)) t394 t413 t416 t422 t425 true true t392 t393 t414 t415 t423 t424) = some r := by rw [if_pos rfl] at H; exact H
                 clear H
                 have H := H1
                 clear H1
                 as_aux_lemma =>
                  have H' := Aside0.mk H
                  clear H
                  go_wp2
                  go_meet
                  case rel => exact ⟨_, (true), (by first | rfl | (simp; done) | (simp [*]; done)), H', ⟨by have := HJ8.out; have := HJ36.out; have := HJ58.out; have := HJ72.out; first | omega | exact Nat.le_refl _⟩, ⟨by (with_reducible repeat (first | refine blk_drewN ?_ _ | refine blk_drew ?_ | refine blk_alloc ?_ _)); exact BK388.out⟩, ⟨by (with_reducible repeat (first | refine blk_drewN ?_ _ | refine blk_drew ?_ | refine blk_alloc ?_ _)); exact BK395.out⟩, ⟨by (with_reducible repeat (first | refine blk_drewN ?_ _ | refine blk_drew ?_ | refine blk_alloc ?_ _)); exact BK418.out⟩, ⟨by (with_reducible repeat (first | refine blk_drewN ?_ _ | refine blk_drew ?_ | refine blk_alloc ?_ _)); exact BK427.out⟩, ⟨by repeat (first | (with_reducible first | exact HB.out | apply below_alloc | apply pw_below_drewN | apply below_drew1 | refine below_set ?_ GE388.out | refine below_set ?_ GE395.out | refine below_set ?_ GE418.out | refine below_set ?_ GE427.out) | exact HB.out)⟩⟩
                ·replace c102 := Bool.eq_false_iff.mpr c102
                 subst c102
                 have H1 : (comfitlaw06_TagsCircles.j5 kj72 (wrap64 (Int.tmod (IntKind.u64.wrap (a2)) 201)) (wrap64 (Int.tmod (IntKind.u64.wrap (a3)) 201)) t394 t413 t416 t422 t425 false false t392 t393 t414 t415 t423 t424) = some r := by rw [if_neg (show ¬ (false = true) by decide)] at H; exact H
                 clear H
                 have H := H1
                 clear H1
                 as_aux_lemma =>
                  have H' := Aside0.mk H
                  clear H
                  go_wp2
                  go_meet
                  case rel => exact ⟨_, (false), (by first | rfl | (simp; done) | (simp [*]; done)), H', ⟨by have := HJ8.out; have := HJ36.out; have := HJ58.out; have := HJ72.out; first | omega | exact Nat.le_refl _⟩, ⟨by (with_reducible repeat (first | refine blk_drewN ?_ _ | refine blk_drew ?_ | refine blk_alloc ?_ _)); exact BK388.out⟩, ⟨by (with_reducible repeat (first | refine blk_drewN ?_ _ | refine blk_drew ?_ | refine blk_alloc ?_ _)); exact BK395.out⟩, ⟨by (with_reducible repeat (first | refine blk_drewN ?_ _ | refine blk_drew ?_ | refine blk_alloc ?_ _)); exact BK418.out⟩, ⟨by (with_reducible repeat (first | refine blk_drewN ?_ _ | refine blk_drew ?_ | refine blk_alloc ?_ _)); exact BK427.out⟩, ⟨by repeat (first | (with_reducible first | exact HB.out | apply below_alloc | apply pw_below_drewN | apply below_drew1 | refine below_set ?_ GE388.out | refine below_set ?_ GE395.out | refine below_set ?_ GE418.out | refine below_set ?_ GE427.out) | exact HB.out)⟩⟩
               ·rw [if_neg c101] at H
                have c101b0 : decide (t425 < (wrap64 (Int.tmod (IntKind.u64.wrap (a3)) 201))) = false := decide_eq_false c101
                clear c101
                by_cases c103 : t431 = true
                ·subst c103
                 have H1 : (if t413 = t422 then (if t423 < t414 then (comfitlaw06_TagsCircles.j5 kj72 (wrap64 (Int.tmod (IntKind.u64.wrap (a2)) 201)) (wrap64 (Int.tmod (IntKind.u64.wrap (a3)) 201)) t394 t413 t416 t422 t425 true true t392 t393 t414 t415 t423 t424) else (if t424 < t415 then (comfitlaw06_TagsCircles.j5 kj72 (wrap64 (Int.tmod (IntKind.u64.wrap (a2)) 201)) (wrap64 (Int.tmod (IntKind.u64.wrap (a3)) 201)) t394 t413 t416 t422 t425 true true t392 t393 t414 t415 t423 t424) else (comfitlaw06_TagsCircles.j5 kj72 (wrap64 (Int.tmod (IntKind.u64.wrap (a2)) 201)) (wrap64 (Int.tmod (IntKind.u64.wrap (a3)) 201)) t394 t413 t416 t422 t425 true (t400 != 4) t392 t393 t414 t415 t423 t424))) else (comfitlaw06_TagsCircles.j5 kj72 (wrap64 (Int.tmod (IntKind.u64.wrap (a2)) 201)) (wrap64 (Int.tmod (IntKind.u64.wrap (a3)) 201)) t394 t413 t416 t422 t425 true true t392 t393 t414 t415 t423 t424)) = some r := by rw [if_pos rfl] at H; exact H
                 clear H
                 have H := H1
                 clear H1
                 by_cases c104 : t413 = t422
                 ·rw [if_pos c104] at H
                  have c104b0 : (t413 == t422) = true := beq_iff_eq.mpr c104
                  have c104b1 : (t413 != t422) = false := bne_eq_false_iff_eq.mpr c104
                  clear c104
                  by_cases c105 : t423 < t414
                  ·rw [if_pos c105] at H
                   have c105b0 : decide (t423 < t414) = true := decide_eq_true c105
                   clear c105
                   as_aux_lemma =>
                    have H' := Aside0.mk H
                    clear H
                    have hnb106 := NB427_388.out
                    have hnc106 := NB388_427.out
                    have hnb107 := NB427_395.out
                    have hnc107 := NB395_427.out
                    have hnb108 := NB427_418.out
                    have hnc108 := NB418_427.out
                    have hcz109_0 : w99.cell? ⟨gb427, 0, none⟩ = some (.int .i64 t423) := (blk_cell BK427.out 0).trans rfl
                    have hcz109_1 : w99.cell? ⟨gb427, 1, none⟩ = some (.int .i64 t424) := (blk_cell BK427.out 1).trans rfl
                    have hfz109_0 := blk_frozen BK427.out 0
                    have hfz109_1 := blk_frozen BK427.out 1
                    have hnb110 := NB418_388.out
                    have hnc110 := NB388_418.out
                    have hnb111 := NB418_395.out
                    have hnc111 := NB395_418.out
                    have hcz112_0 : w99.cell? ⟨gb418, 0, none⟩ = some (.int .i64 t414) := (blk_cell BK418.out 0).trans rfl
                    have hcz112_1 : w99.cell? ⟨gb418, 1, none⟩ = some (.int .i64 t415) := (blk_cell BK418.out 1).trans rfl
                    have hfz112_0 := blk_frozen BK418.out 0
                    have hfz112_1 := blk_frozen BK418.out 1
                    go_wp2
                    go_meet
                    case rel => exact ⟨_, (true), (by first | rfl | (simp; done) | (simp [*]; done)), H', ⟨by have := HJ8.out; have := HJ36.out; have := HJ58.out; have := HJ72.out; first | omega | exact Nat.le_refl _⟩, ⟨by (with_reducible repeat (first | refine blk_drewN ?_ _ | refine blk_drew ?_ | refine blk_alloc ?_ _)); exact BK388.out⟩, ⟨by (with_reducible repeat (first | refine blk_drewN ?_ _ | refine blk_drew ?_ | refine blk_alloc ?_ _)); exact BK395.out⟩, ⟨by (with_reducible repeat (first | refine blk_drewN ?_ _ | refine blk_drew ?_ | refine blk_alloc ?_ _)); exact BK418.out⟩, ⟨by (with_reducible repeat (first | refine blk_drewN ?_ _ | refine blk_drew ?_ | refine blk_alloc ?_ _)); exact BK427.out⟩, ⟨by repeat (first | (with_reducible first | exact HB.out | apply below_alloc | apply pw_below_drewN | apply below_drew1 | refine below_set ?_ GE388.out | refine below_set ?_ GE395.out | refine below_set ?_ GE418.out | refine below_set ?_ GE427.out) | exact HB.out)⟩⟩
                  ·rw [if_neg c105] at H
                   have c105b0 : decide (t423 < t414) = false := decide_eq_false c105
                   clear c105
                   by_cases c113 : t424 < t415
                   ·rw [if_pos c113] at H
                    have c113b0 : decide (t424 < t415) = true := decide_eq_true c113
                    clear c113
                    as_aux_lemma =>
                     have H' := Aside0.mk H
                     clear H
                     have hnb114 := NB427_388.out
                     have hnc114 := NB388_427.out
                     have hnb115 := NB427_395.out
                     have hnc115 := NB395_427.out
                     have hnb116 := NB427_418.out
                     have hnc116 := NB418_427.out
                     have hcz117_0 : w99.cell? ⟨gb427, 0, none⟩ = some (.int .i64 t423) := (blk_cell BK427.out 0).trans rfl
                     have hcz117_1 : w99.cell? ⟨gb427, 1, none⟩ = some (.int .i64 t424) := (blk_cell BK427.out 1).trans rfl
                     have hfz117_0 := blk_frozen BK427.out 0
                     have hfz117_1 := blk_frozen BK427.out 1
                     have hnb118 := NB418_388.out
                     have hnc118 := NB388_418.out
                     have hnb119 := NB418_395.out
                     have hnc119 := NB395_418.out
                     have hcz120_0 : w99.cell? ⟨gb418, 0, none⟩ = some (.int .i64 t414) := (blk_cell BK418.out 0).trans rfl
                     have hcz120_1 : w99.cell? ⟨gb418, 1, none⟩ = some (.int .i64 t415) := (blk_cell BK418.out 1).trans rfl
                     have hfz120_0 := blk_frozen BK418.out 0
                     have hfz120_1 := blk_frozen BK418.out 1
                     go_wp2
                     go_meet
                     case rel => exact ⟨_, (true), (by first | rfl | (simp; done) | (simp [*]; done)), H', ⟨by have := HJ8.out; have := HJ36.out; have := HJ58.out; have := HJ72.out; first | omega | exact Nat.le_refl _⟩, ⟨by (with_reducible repeat (first | refine blk_drewN ?_ _ | refine blk_drew ?_ | refine blk_alloc ?_ _)); exact BK388.out⟩, ⟨by (with_reducible repeat (first | refine blk_drewN ?_ _ | refine blk_drew ?_ | refine blk_alloc ?_ _)); exact BK395.out⟩, ⟨by (with_reducible repeat (first | refine blk_drewN ?_ _ | refine blk_drew ?_ | refine blk_alloc ?_ _)); exact BK418.out⟩, ⟨by (with_reducible repeat (first | refine blk_drewN ?_ _ | refine blk_drew ?_ | refine blk_alloc ?_ _)); exact BK427.out⟩, ⟨by repeat (first | (with_reducible first | exact HB.out | apply below_alloc | apply pw_below_drewN | apply below_drew1 | refine below_set ?_ GE388.out | refine below_set ?_ GE395.out | refine below_set ?_ GE418.out | refine below_set ?_ GE427.out) | exact HB.out)⟩⟩
                   ·rw [if_neg c113] at H
                    have c113b0 : decide (t424 < t415) = false := decide_eq_false c113
                    clear c113
                    as_aux_lemma =>
                     have H' := Aside0.mk H
                     clear H
                     have hnb121 := NB427_388.out
                     have hnc121 := NB388_427.out
                     have hnb122 := NB427_395.out
                     have hnc122 := NB395_427.out
                     have hnb123 := NB427_418.out
                     have hnc123 := NB418_427.out
                     have hcz124_0 : w99.cell? ⟨gb427, 0, none⟩ = some (.int .i64 t423) := (blk_cell BK427.out 0).trans rfl
                     have hcz124_1 : w99.cell? ⟨gb427, 1, none⟩ = some (.int .i64 t424) := (blk_cell BK427.out 1).trans rfl
                     have hfz124_0 := blk_frozen BK427.out 0
                     have hfz124_1 := blk_frozen BK427.out 1
                     have hnb125 := NB418_388.out
                     have hnc125 := NB388_418.out
                     have hnb126 := NB418_395.out
                     have hnc126 := NB395_418.out
                     have hcz127_0 : w99.cell? ⟨gb418, 0, none⟩ = some (.int .i64 t414) := (blk_cell BK418.out 0).trans rfl
                     have hcz127_1 : w99.cell? ⟨gb418, 1, none⟩ = some (.int .i64 t415) := (blk_cell BK418.out 1).trans rfl
                     have hfz127_0 := blk_frozen BK418.out 0
                     have hfz127_1 := blk_frozen BK418.out 1
                     go_wp2
                     go_meet
                     case rel => exact ⟨_, ((t400 != 4)), (by first | rfl | (simp; done) | (simp [*]; done)), H', ⟨by have := HJ8.out; have := HJ36.out; have := HJ58.out; have := HJ72.out; first | omega | exact Nat.le_refl _⟩, ⟨by (with_reducible repeat (first | refine blk_drewN ?_ _ | refine blk_drew ?_ | refine blk_alloc ?_ _)); exact BK388.out⟩, ⟨by (with_reducible repeat (first | refine blk_drewN ?_ _ | refine blk_drew ?_ | refine blk_alloc ?_ _)); exact BK395.out⟩, ⟨by (with_reducible repeat (first | refine blk_drewN ?_ _ | refine blk_drew ?_ | refine blk_alloc ?_ _)); exact BK418.out⟩, ⟨by (with_reducible repeat (first | refine blk_drewN ?_ _ | refine blk_drew ?_ | refine blk_alloc ?_ _)); exact BK427.out⟩, ⟨by repeat (first | (with_reducible first | exact HB.out | apply below_alloc | apply pw_below_drewN | apply below_drew1 | refine below_set ?_ GE388.out | refine below_set ?_ GE395.out | refine below_set ?_ GE418.out | refine below_set ?_ GE427.out) | exact HB.out)⟩⟩
                 ·rw [if_neg c104] at H
                  have c104b0 : (t413 == t422) = false := beq_eq_false_iff_ne.mpr c104
                  have c104b1 : (t413 != t422) = true := bne_iff_ne.mpr c104
                  as_aux_lemma =>
                   have H' := Aside0.mk H
                   clear H
                   go_wp2
                   go_meet
                   case rel => exact ⟨_, (true), (by first | rfl | (simp; done) | (simp [*]; done)), H', ⟨by have := HJ8.out; have := HJ36.out; have := HJ58.out; have := HJ72.out; first | omega | exact Nat.le_refl _⟩, ⟨by (with_reducible repeat (first | refine blk_drewN ?_ _ | refine blk_drew ?_ | refine blk_alloc ?_ _)); exact BK388.out⟩, ⟨by (with_reducible repeat (first | refine blk_drewN ?_ _ | refine blk_drew ?_ | refine blk_alloc ?_ _)); exact BK395.out⟩, ⟨by (with_reducible repeat (first | refine blk_drewN ?_ _ | refine blk_drew ?_ | refine blk_alloc ?_ _)); exact BK418.out⟩, ⟨by (with_reducible repeat (first | refine blk_drewN ?_ _ | refine blk_drew ?_ | refine blk_alloc ?_ _)); exact BK427.out⟩, ⟨by repeat (first | (with_reducible first | exact HB.out | apply below_alloc | apply pw_below_drewN | apply below_drew1 | refine below_set ?_ GE388.out | refine below_set ?_ GE395.out | refine below_set ?_ GE418.out | refine below_set ?_ GE427.out) | exact HB.out)⟩⟩
                ·replace c103 := Bool.eq_false_iff.mpr c103
                 subst c103
                 have H1 : (comfitlaw06_TagsCircles.j5 kj72 (wrap64 (Int.tmod (IntKind.u64.wrap (a2)) 201)) (wrap64 (Int.tmod (IntKind.u64.wrap (a3)) 201)) t394 t413 t416 t422 t425 false false t392 t393 t414 t415 t423 t424) = some r := by rw [if_neg (show ¬ (false = true) by decide)] at H; exact H
                 clear H
                 have H := H1
                 clear H1
                 as_aux_lemma =>
                  have H' := Aside0.mk H
                  clear H
                  go_wp2
                  go_meet
                  case rel => exact ⟨_, (false), (by first | rfl | (simp; done) | (simp [*]; done)), H', ⟨by have := HJ8.out; have := HJ36.out; have := HJ58.out; have := HJ72.out; first | omega | exact Nat.le_refl _⟩, ⟨by (with_reducible repeat (first | refine blk_drewN ?_ _ | refine blk_drew ?_ | refine blk_alloc ?_ _)); exact BK388.out⟩, ⟨by (with_reducible repeat (first | refine blk_drewN ?_ _ | refine blk_drew ?_ | refine blk_alloc ?_ _)); exact BK395.out⟩, ⟨by (with_reducible repeat (first | refine blk_drewN ?_ _ | refine blk_drew ?_ | refine blk_alloc ?_ _)); exact BK418.out⟩, ⟨by (with_reducible repeat (first | refine blk_drewN ?_ _ | refine blk_drew ?_ | refine blk_alloc ?_ _)); exact BK427.out⟩, ⟨by repeat (first | (with_reducible first | exact HB.out | apply below_alloc | apply pw_below_drewN | apply below_drew1 | refine below_set ?_ GE388.out | refine below_set ?_ GE395.out | refine below_set ?_ GE418.out | refine below_set ?_ GE427.out) | exact HB.out)⟩⟩
              ·rw [if_neg c100] at H
               have c100b0 : (t432 == 0) = false := beq_eq_false_iff_ne.mpr c100
               have c100b1 : (t432 != 0) = true := bne_iff_ne.mpr c100
               (first | rw [c100b0] | (simp only [i64_w, i32_w]; rw [c100b0]) | skip)
               as_aux_lemma =>
                have H' := Aside0.mk H
                clear H
                go_wp2
                go_meet
                case rel => exact ⟨_, (true), (by first | rfl | (simp; done) | (simp [*]; done)), H', ⟨by have := HJ8.out; have := HJ36.out; have := HJ58.out; have := HJ72.out; first | omega | exact Nat.le_refl _⟩, ⟨by (with_reducible repeat (first | refine blk_drewN ?_ _ | refine blk_drew ?_ | refine blk_alloc ?_ _)); exact BK388.out⟩, ⟨by (with_reducible repeat (first | refine blk_drewN ?_ _ | refine blk_drew ?_ | refine blk_alloc ?_ _)); exact BK395.out⟩, ⟨by (with_reducible repeat (first | refine blk_drewN ?_ _ | refine blk_drew ?_ | refine blk_alloc ?_ _)); exact BK418.out⟩, ⟨by (with_reducible repeat (first | refine blk_drewN ?_ _ | refine blk_drew ?_ | refine blk_alloc ?_ _)); exact BK427.out⟩, ⟨by repeat (first | (with_reducible first | exact HB.out | apply below_alloc | apply pw_below_drewN | apply below_drew1 | refine below_set ?_ GE388.out | refine below_set ?_ GE395.out | refine below_set ?_ GE418.out | refine below_set ?_ GE427.out) | exact HB.out)⟩⟩
             case rest =>
              clear HC95
              try clear c1
              try clear p2
              try clear p6
              try clear c9
              try clear c10
              try clear c11
              try clear c12
              try clear c18
              try clear p64
              try clear c91
              try clear c91b0
              try clear c91b1
              try clear c92
              try clear c100
              try clear c100b0
              try clear c100b1
              try clear c101
              try clear c101b0
              try clear c102
              try clear c103
              try clear c104
              try clear c104b0
              try clear c104b1
              try clear c105
              try clear c105b0
              try clear c106
              try clear c107
              try clear c108
              try clear c110
              try clear c111
              try clear c113
              try clear c113b0
              try clear c114
              try clear c115
              try clear c116
              try clear c118
              try clear c119
              try clear c121
              try clear c122
              try clear c123
              try clear c125
              try clear c126
              try clear hcz109_0
              try clear hcz109_1
              try clear hcz112_0
              try clear hcz112_1
              try clear hcz117_0
              try clear hcz117_1
              try clear hcz120_0
              try clear hcz120_1
              try clear hcz124_0
              try clear hcz124_1
              try clear hcz127_0
              try clear hcz127_1
              try clear hfz109_0
              try clear hfz109_1
              try clear hfz112_0
              try clear hfz112_1
              try clear hfz117_0
              try clear hfz117_1
              try clear hfz120_0
              try clear hfz120_1
              try clear hfz124_0
              try clear hfz124_1
              try clear hfz127_0
              try clear hfz127_1
              try clear p2
              try clear p6
              try clear p64
              obtain ⟨kq, x205_94, rfl, HA, HJ94, BK388, BK395, BK418, BK427, HB⟩ := hcut
              cases kq with
              | zero => exact absurd HA.out (by simp [comfitlaw06_TagsCircles.j5])
              | succ kj94 =>
               have H := HA.out
               clear HA
               simp only [comfitlaw06_TagsCircles.j5] at H
               by_cases c128 : x205_94 = true
               ·subst c128
                have H1 : (none) = some r := by rw [if_pos rfl] at H; exact H
                clear H
                have H := H1
                clear H1
                exact absurd H (by simp)
               ·replace c128 := Bool.eq_false_iff.mpr c128
                subst c128
                have H1 : (if t416 = (wrap64 (Int.tmod (IntKind.u64.wrap (a2)) 201)) then (if t425 = (wrap64 (Int.tmod (IntKind.u64.wrap (a3)) 201)) then (if t413 = t422 then (comfitlaw06_TagsCircles.j6 kj94 (wrap64 (Int.tmod (IntKind.u64.wrap (a3)) 201)) t394 t431 (t414 == t423 && (t415 == t424)) t392 t393) else (comfitlaw06_TagsCircles.j6 kj94 (wrap64 (Int.tmod (IntKind.u64.wrap (a3)) 201)) t394 t431 false t392 t393)) else (comfitlaw06_TagsCircles.j6 kj94 (wrap64 (Int.tmod (IntKind.u64.wrap (a3)) 201)) t394 t431 false t392 t393)) else (comfitlaw06_TagsCircles.j6 kj94 (wrap64 (Int.tmod (IntKind.u64.wrap (a3)) 201)) t394 t431 false t392 t393)) = some r := by rw [if_neg (show ¬ (false = true) by decide)] at H; exact H
                clear H
                have H := H1
                clear H1
                have HC129 := Aside0.mk H
                clear H
                go_upto_region 23 with (fail)
                go_cut [223] (fun v223 wc => ∃ (kq : Nat) (x223_128 : Bool), v223 = .bool x223_128 ∧ Aside0 (comfitlaw06_TagsCircles.j6 kq (wrap64 (Int.tmod (IntKind.u64.wrap (a3)) 201)) t394 t431 x223_128 t392 t393 = some r) ∧ Aside0 (kq ≤ kj94) ∧ Aside0 (wc.heap[gb388]? = some (.cells #[.int .i64 a1_0, .int .i64 a1_1] 23 (0, 0))) ∧ Aside0 (wc.heap[gb395]? = some (.cells #[.int .i64 t392, .int .i64 t393] 23 (0, 0))) ∧ Aside0 (wc.heap[gb418]? = some (.cells #[.int .i64 t414, .int .i64 t415] 23 (0, 0))) ∧ Aside0 (wc.heap[gb427]? = some (.cells #[.int .i64 t423, .int .i64 t424] 23 (0, 0))) ∧ Aside0 (Below w.heap.size w wc))
                case first =>
                 have H := HC129.out
                 clear HC129
                 by_cases c130 : t416 = (wrap64 (Int.tmod (IntKind.u64.wrap (a2)) 201))
                 ·rw [if_pos c130] at H
                  have c130b0 : (t416 == (wrap64 (Int.tmod (IntKind.u64.wrap (a2)) 201))) = true := beq_iff_eq.mpr c130
                  have c130b1 : (t416 != (wrap64 (Int.tmod (IntKind.u64.wrap (a2)) 201))) = false := bne_eq_false_iff_eq.mpr c130
                  clear c130
                  (first | rw [c130b0] | (simp only [i64_w, i32_w]; rw [c130b0]) | skip)
                  by_cases c131 : t425 = (wrap64 (Int.tmod (IntKind.u64.wrap (a3)) 201))
                  ·rw [if_pos c131] at H
                   have c131b0 : (t425 == (wrap64 (Int.tmod (IntKind.u64.wrap (a3)) 201))) = true := beq_iff_eq.mpr c131
                   have c131b1 : (t425 != (wrap64 (Int.tmod (IntKind.u64.wrap (a3)) 201))) = false := bne_eq_false_iff_eq.mpr c131
                   clear c131
                   by_cases c132 : t413 = t422
                   ·rw [if_pos c132] at H
                    have c132b0 : (t413 == t422) = true := beq_iff_eq.mpr c132
                    have c132b1 : (t413 != t422) = false := bne_eq_false_iff_eq.mpr c132
                    clear c132
                    as_aux_lemma =>
                     have H' := Aside0.mk H
                     clear H
                     have hnb133 := NB418_388.out
                     have hnc133 := NB388_418.out
                     have hnb134 := NB418_395.out
                     have hnc134 := NB395_418.out
                     have hnb135 := NB418_427.out
                     have hnc135 := NB427_418.out
                     have hcz136_0 : wc.cell? ⟨gb418, 0, none⟩ = some (.int .i64 t414) := (blk_cell BK418.out 0).trans rfl
                     have hcz136_1 : wc.cell? ⟨gb418, 1, none⟩ = some (.int .i64 t415) := (blk_cell BK418.out 1).trans rfl
                     have hfz136_0 := blk_frozen BK418.out 0
                     have hfz136_1 := blk_frozen BK418.out 1
                     have hnb137 := NB427_388.out
                     have hnc137 := NB388_427.out
                     have hnb138 := NB427_395.out
                     have hnc138 := NB395_427.out
                     have hcz139_0 : wc.cell? ⟨gb427, 0, none⟩ = some (.int .i64 t423) := (blk_cell BK427.out 0).trans rfl
                     have hcz139_1 : wc.cell? ⟨gb427, 1, none⟩ = some (.int .i64 t424) := (blk_cell BK427.out 1).trans rfl
                     have hfz139_0 := blk_frozen BK427.out 0
                     have hfz139_1 := blk_frozen BK427.out 1
                     go_wp2
                     go_meet
                     case rel => exact ⟨_, ((t414 == t423 && (t415 == t424))), (by first | rfl | (simp; done) | (simp [*]; done)), H', ⟨by have := HJ8.out; have := HJ36.out; have := HJ58.out; have := HJ72.out; have := HJ94.out; first | omega | exact Nat.le_refl _⟩, ⟨by (with_reducible repeat (first | refine blk_drewN ?_ _ | refine blk_drew ?_ | refine blk_alloc ?_ _)); exact BK388.out⟩, ⟨by (with_reducible repeat (first | refine blk_drewN ?_ _ | refine blk_drew ?_ | refine blk_alloc ?_ _)); exact BK395.out⟩, ⟨by (with_reducible repeat (first | refine blk_drewN ?_ _ | refine blk_drew ?_ | refine blk_alloc ?_ _)); exact BK418.out⟩, ⟨by (with_reducible repeat (first | refine blk_drewN ?_ _ | refine blk_drew ?_ | refine blk_alloc ?_ _)); exact BK427.out⟩, ⟨by repeat (first | (with_reducible first | exact HB.out | apply below_alloc | apply pw_below_drewN | apply below_drew1 | refine below_set ?_ GE388.out | refine below_set ?_ GE395.out | refine below_set ?_ GE418.out | refine below_set ?_ GE427.out) | exact HB.out)⟩⟩
                   ·rw [if_neg c132] at H
                    have c132b0 : (t413 == t422) = false := beq_eq_false_iff_ne.mpr c132
                    have c132b1 : (t413 != t422) = true := bne_iff_ne.mpr c132
                    as_aux_lemma =>
                     have H' := Aside0.mk H
                     clear H
                     go_wp2
                     go_meet
                     case rel => exact ⟨_, (false), (by first | rfl | (simp; done) | (simp [*]; done)), H', ⟨by have := HJ8.out; have := HJ36.out; have := HJ58.out; have := HJ72.out; have := HJ94.out; first | omega | exact Nat.le_refl _⟩, ⟨by (with_reducible repeat (first | refine blk_drewN ?_ _ | refine blk_drew ?_ | refine blk_alloc ?_ _)); exact BK388.out⟩, ⟨by (with_reducible repeat (first | refine blk_drewN ?_ _ | refine blk_drew ?_ | refine blk_alloc ?_ _)); exact BK395.out⟩, ⟨by (with_reducible repeat (first | refine blk_drewN ?_ _ | refine blk_drew ?_ | refine blk_alloc ?_ _)); exact BK418.out⟩, ⟨by (with_reducible repeat (first | refine blk_drewN ?_ _ | refine blk_drew ?_ | refine blk_alloc ?_ _)); exact BK427.out⟩, ⟨by repeat (first | (with_reducible first | exact HB.out | apply below_alloc | apply pw_below_drewN | apply below_drew1 | refine below_set ?_ GE388.out | refine below_set ?_ GE395.out | refine below_set ?_ GE418.out | refine below_set ?_ GE427.out) | exact HB.out)⟩⟩
                  ·rw [if_neg c131] at H
                   have c131b0 : (t425 == (wrap64 (Int.tmod (IntKind.u64.wrap (a3)) 201))) = false := beq_eq_false_iff_ne.mpr c131
                   have c131b1 : (t425 != (wrap64 (Int.tmod (IntKind.u64.wrap (a3)) 201))) = true := bne_iff_ne.mpr c131
                   as_aux_lemma =>
                    have H' := Aside0.mk H
                    clear H
                    go_wp2
                    go_meet
                    case rel => exact ⟨_, (false), (by first | rfl | (simp; done) | (simp [*]; done)), H', ⟨by have := HJ8.out; have := HJ36.out; have := HJ58.out; have := HJ72.out; have := HJ94.out; first | omega | exact Nat.le_refl _⟩, ⟨by (with_reducible repeat (first | refine blk_drewN ?_ _ | refine blk_drew ?_ | refine blk_alloc ?_ _)); exact BK388.out⟩, ⟨by (with_reducible repeat (first | refine blk_drewN ?_ _ | refine blk_drew ?_ | refine blk_alloc ?_ _)); exact BK395.out⟩, ⟨by (with_reducible repeat (first | refine blk_drewN ?_ _ | refine blk_drew ?_ | refine blk_alloc ?_ _)); exact BK418.out⟩, ⟨by (with_reducible repeat (first | refine blk_drewN ?_ _ | refine blk_drew ?_ | refine blk_alloc ?_ _)); exact BK427.out⟩, ⟨by repeat (first | (with_reducible first | exact HB.out | apply below_alloc | apply pw_below_drewN | apply below_drew1 | refine below_set ?_ GE388.out | refine below_set ?_ GE395.out | refine below_set ?_ GE418.out | refine below_set ?_ GE427.out) | exact HB.out)⟩⟩
                 ·rw [if_neg c130] at H
                  have c130b0 : (t416 == (wrap64 (Int.tmod (IntKind.u64.wrap (a2)) 201))) = false := beq_eq_false_iff_ne.mpr c130
                  have c130b1 : (t416 != (wrap64 (Int.tmod (IntKind.u64.wrap (a2)) 201))) = true := bne_iff_ne.mpr c130
                  (first | rw [c130b0] | (simp only [i64_w, i32_w]; rw [c130b0]) | skip)
                  as_aux_lemma =>
                   have H' := Aside0.mk H
                   clear H
                   go_wp2
                   go_meet
                   case rel => exact ⟨_, (false), (by first | rfl | (simp; done) | (simp [*]; done)), H', ⟨by have := HJ8.out; have := HJ36.out; have := HJ58.out; have := HJ72.out; have := HJ94.out; first | omega | exact Nat.le_refl _⟩, ⟨by (with_reducible repeat (first | refine blk_drewN ?_ _ | refine blk_drew ?_ | refine blk_alloc ?_ _)); exact BK388.out⟩, ⟨by (with_reducible repeat (first | refine blk_drewN ?_ _ | refine blk_drew ?_ | refine blk_alloc ?_ _)); exact BK395.out⟩, ⟨by (with_reducible repeat (first | refine blk_drewN ?_ _ | refine blk_drew ?_ | refine blk_alloc ?_ _)); exact BK418.out⟩, ⟨by (with_reducible repeat (first | refine blk_drewN ?_ _ | refine blk_drew ?_ | refine blk_alloc ?_ _)); exact BK427.out⟩, ⟨by repeat (first | (with_reducible first | exact HB.out | apply below_alloc | apply pw_below_drewN | apply below_drew1 | refine below_set ?_ GE388.out | refine below_set ?_ GE395.out | refine below_set ?_ GE418.out | refine below_set ?_ GE427.out) | exact HB.out)⟩⟩
                case rest =>
                 clear HC129
                 try clear c1
                 try clear p2
                 try clear p6
                 try clear c9
                 try clear c10
                 try clear c11
                 try clear c12
                 try clear c13
                 try clear c18
                 try clear p64
                 try clear c91
                 try clear c91b0
                 try clear c91b1
                 try clear c92
                 try clear c100
                 try clear c100b0
                 try clear c100b1
                 try clear c101
                 try clear c101b0
                 try clear c102
                 try clear c103
                 try clear c104
                 try clear c104b0
                 try clear c104b1
                 try clear c105
                 try clear c105b0
                 try clear c106
                 try clear c107
                 try clear c108
                 try clear c110
                 try clear c111
                 try clear c113
                 try clear c113b0
                 try clear c114
                 try clear c115
                 try clear c116
                 try clear c118
                 try clear c119
                 try clear c121
                 try clear c122
                 try clear c123
                 try clear c125
                 try clear c126
                 try clear c128
                 try clear c130
                 try clear c130b0
                 try clear c130b1
                 try clear c131
                 try clear c131b0
                 try clear c131b1
                 try clear c132
                 try clear c132b0
                 try clear c132b1
                 try clear c133
                 try clear c134
                 try clear c135
                 try clear c137
                 try clear c138
                 try clear hcz109_0
                 try clear hcz109_1
                 try clear hcz112_0
                 try clear hcz112_1
                 try clear hcz117_0
                 try clear hcz117_1
                 try clear hcz120_0
                 try clear hcz120_1
                 try clear hcz124_0
                 try clear hcz124_1
                 try clear hcz127_0
                 try clear hcz127_1
                 try clear hcz136_0
                 try clear hcz136_1
                 try clear hcz139_0
                 try clear hcz139_1
                 try clear hfz109_0
                 try clear hfz109_1
                 try clear hfz112_0
                 try clear hfz112_1
                 try clear hfz117_0
                 try clear hfz117_1
                 try clear hfz120_0
                 try clear hfz120_1
                 try clear hfz124_0
                 try clear hfz124_1
                 try clear hfz127_0
                 try clear hfz127_1
                 try clear hfz136_0
                 try clear hfz136_1
                 try clear hfz139_0
                 try clear hfz139_1
                 try clear p2
                 try clear p6
                 try clear p64
                 obtain ⟨kq, x223_128, rfl, HA, HJ128, BK388, BK395, BK418, BK427, HB⟩ := hcut
                 cases kq with
                 | zero => exact absurd HA.out (by simp [comfitlaw06_TagsCircles.j6])
                 | succ kj128 =>
                  have H := HA.out
                  clear HA
                  simp only [comfitlaw06_TagsCircles.j6] at H
                  by_cases c140 : x223_128 = true
                  ·subst c140
                   have H1 : (if t431 = true then (if t394 = 0 then (if t393 ≤ (wrap64 (Int.tmod (IntKind.u64.wrap (a3)) 201)) then ((comfitlaw06_awake.f kj128).bind fun t433 => (some t433)) else (none)) else (none)) else (none)) = some r := by rw [if_pos rfl] at H; exact H
                   clear H
                   have H := H1
                   clear H1
                   by_cases c141 : t431 = true
                   ·subst c141
                    have H1 : (if t394 = 0 then (if t393 ≤ (wrap64 (Int.tmod (IntKind.u64.wrap (a3)) 201)) then ((comfitlaw06_awake.f kj128).bind fun t433 => (some t433)) else (none)) else (none)) = some r := by rw [if_pos rfl] at H; exact H
                    clear H
                    have H := H1
                    clear H1
                    by_cases c142 : t394 = 0
                    ·rw [if_pos c142] at H
                     have c142b0 : (t394 == 0) = true := beq_iff_eq.mpr c142
                     have c142b1 : (t394 != 0) = false := bne_eq_false_iff_eq.mpr c142
                     clear c142
                     by_cases c143 : t393 ≤ (wrap64 (Int.tmod (IntKind.u64.wrap (a3)) 201))
                     ·rw [if_pos c143] at H
                      have c143b0 : decide (t393 ≤ (wrap64 (Int.tmod (IntKind.u64.wrap (a3)) 201))) = true := decide_eq_true c143
                      clear c143
                      replace H := Option.bind_eq_some_iff.mp H
                      obtain ⟨t433, A1440, H⟩ := H
                      replace H : (some t433) = some r := H
                      have A144 := Aside0.mk A1440
                      clear A1440
                      as_aux_lemma =>
                       obtain rfl := Option.some.inj H
                       have hnb145 := NB395_388.out
                       have hnc145 := NB388_395.out
                       have hnb146 := NB395_418.out
                       have hnc146 := NB418_395.out
                       have hnb147 := NB395_427.out
                       have hnc147 := NB427_395.out
                       have hcz148_0 : wc.cell? ⟨gb395, 0, none⟩ = some (.int .i64 t392) := (blk_cell BK395.out 0).trans rfl
                       have hcz148_1 : wc.cell? ⟨gb395, 1, none⟩ = some (.int .i64 t393) := (blk_cell BK395.out 1).trans rfl
                       have hfz148_0 := blk_frozen BK395.out 0
                       have hfz148_1 := blk_frozen BK395.out 1
                       go_wp2_with (first | (go_at_call 14; (with_reducible refine (comfitlaw06_awake.calls kj128  t433 _ A144.out).mono ?_); rintro e w149 ⟨rfl, hb⟩; have n0_ := Aside0.mk (bkb_ BK388.out hb); have n1_ := Aside0.mk (bkb_ BK395.out hb); have n2_ := Aside0.mk (bkb_ BK418.out hb); have n3_ := Aside0.mk (bkb_ BK427.out hb); have n4_ := Aside0.mk (below_step (hb_ HB.out) hb); clear BK388; clear BK395; clear BK418; clear BK427; clear HB; have BK388 := n0_; have BK395 := n1_; have BK418 := n2_; have BK427 := n3_; have HB := n4_; clear n0_ n1_ n2_ n3_ n4_; (try clear hb); (try clear hb2); (try clear hk); (try clear hi)))
                       go_ret
                       exact ⟨by first | rfl | (simp [errW_none, errW_some] <;> rfl) | (simp [*, errW_none, errW_some] <;> rfl), by repeat (first | (with_reducible first | exact HB.out | apply below_alloc | apply pw_below_drewN | apply below_drew1 | refine below_set ?_ GE388.out | refine below_set ?_ GE395.out | refine below_set ?_ GE418.out | refine below_set ?_ GE427.out) | exact HB.out)⟩
                     ·rw [if_neg c143] at H
                      exact absurd H (by simp)
                    ·rw [if_neg c142] at H
                     exact absurd H (by simp)
                   ·replace c141 := Bool.eq_false_iff.mpr c141
                    subst c141
                    have H1 : (none) = some r := by rw [if_neg (show ¬ (false = true) by decide)] at H; exact H
                    clear H
                    have H := H1
                    clear H1
                    exact absurd H (by simp)
                  ·replace c140 := Bool.eq_false_iff.mpr c140
                   subst c140
                   have H1 : ((comfitlaw06_awake.f kj128).bind fun t434 => (some t434)) = some r := by rw [if_neg (show ¬ (false = true) by decide)] at H; exact H
                   clear H
                   have H := H1
                   clear H1
                   replace H := Option.bind_eq_some_iff.mp H
                   obtain ⟨t434, A1500, H⟩ := H
                   replace H : (some t434) = some r := H
                   have A150 := Aside0.mk A1500
                   clear A1500
                   as_aux_lemma =>
                    obtain rfl := Option.some.inj H
                    go_wp2_with (first | ((with_reducible refine gate_callee (f := 14) rfl ?_); refine goesL_ (some 238) rfl rfl Try.func14 (by kernel_rfl) rfl #[] rfl al_ ?_; (with_reducible refine (comfitlaw06_awake.calls kj128  t434 _ A150.out).mono ?_); rintro e w151 ⟨rfl, hb⟩; refine ⟨_, rfl, ?_⟩; have n0_ := Aside0.mk (bkb_ BK388.out hb); have n1_ := Aside0.mk (bkb_ BK395.out hb); have n2_ := Aside0.mk (bkb_ BK418.out hb); have n3_ := Aside0.mk (bkb_ BK427.out hb); have n4_ := Aside0.mk (below_step (hb_ HB.out) hb); clear BK388; clear BK395; clear BK418; clear BK427; clear HB; have BK388 := n0_; have BK395 := n1_; have BK418 := n2_; have BK427 := n3_; have HB := n4_; clear n0_ n1_ n2_ n3_ n4_; (try clear hb); (try clear hb2); (try clear hk); (try clear hi)))
                    go_ret
                    exact ⟨by first | rfl | (simp [errW_none, errW_some] <;> rfl) | (simp [*, errW_none, errW_some] <;> rfl), by repeat (first | (with_reducible first | exact HB.out | apply below_alloc | apply pw_below_drewN | apply below_drew1 | refine below_set ?_ GE388.out | refine below_set ?_ GE395.out | refine below_set ?_ GE418.out | refine below_set ?_ GE427.out) | exact HB.out)⟩

end Go.Proofs.Ytjmbjnobbeflfaa.X
