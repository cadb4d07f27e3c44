/- Written by a program of this session (wip/tools/xprint.py, which calls the kit's print): Go functions as Lean functions, and for each the proof that the machine's call does what it says; no conditions but those that each theorem names. -/
import Derived.Test.YtjmbjnobbeflfaaQX0
import Derived.Test.YtjmbjnobbeflfaaQXE
import Derived.Test.YtjmbjnobbeflfaaQXEq
import Derived.Test.YtjmbjnobbeflfaaQXG
import Derived.Test.YtjmbjnobbeflfaaQXM
import Derived.Test.YtjmbjnobbeflfaaQXO
import Derived.Test.YtjmbjnobbeflfaaQXS
import Derived.Test.YtjmbjnobbeflfaaQHFewer
namespace Go.Proofs.Ytjmbjnobbeflfaa.X
open Go.RowKit Go.Proofs.YtjmbjnobbeflfaaW.PrintWords Go.Proofs.YtjmbjnobbeflfaaW.PrintLast Go.Proofs.YtjmbjnobbeflfaaW.PrintMore
attribute [local go_sem] max2_int min2_int max_two min_two max_three min_three max_four min_four   -- for this text's walks alone
set_option linter.unusedVariables false
set_option linter.unusedSimpArgs false

attribute [local go_sem high] eqA23
/-! ### comfitlaw06_TagsFewer: function 8 -/
mutual
def comfitlaw06_TagsFewer.j0 : Nat → List (S39) → Int → List (S57) → Int → Bool → Int → Int → Option (Bool)
 | 0, _, _, _, _, _, _, _ => none
 | k + 1, x0, x2, x7, x8, x33, x474000, x474001 => if x33 = true then (if x8 = 2 then ((comfitlaw06_awake.f k).bind fun t482 => (some t482)) else (none)) else ((tags_Order_28.f x7).bind fun t483 => ((tags_Fewer.f t483).bind fun bt486 => (if bt486.2 = 0 then ((tags_Order_29.f k bt486.1 x7).bind fun t490 => (if t490 = true then (if (x7.length : Int) > (x0.length : Int) then (comfitlaw06_TagsFewer.j1 k x0 x2 x7 true x474000 x474001) else ((comfitlaw06_own.f k x7).bind fun t491 => ((comfitref06_Machine.f k t491).bind fun t494 => (comfitlaw06_TagsFewer.j1 k x0 x2 x7 (!t494) x474000 x474001)))) else (comfitlaw06_TagsFewer.j1 k x0 x2 x7 true x474000 x474001))) else (comfitlaw06_TagsFewer.j1 k x0 x2 x7 true x474000 x474001))))
def comfitlaw06_TagsFewer.j1 : Nat → List (S39) → Int → List (S57) → Bool → Int → Int → Option (Bool)
 | 0, _, _, _, _, _, _ => none
 | k + 1, x0, x2, x7, x65, x474000, x474001 => if x65 = true then (none) else ((comfitlaw06_Of.f k x0).bind fun t495 => ((tags_Go.f k t495 x474000 x474001 x2).bind fun bt498 => ((tags_Order_28.f x7).bind fun t504 => ((tags_Go.f k t504 x474000 x474001 x2).bind fun bt507 => (if bt498.2.2.2.2 = 0 then (comfitlaw06_TagsFewer.j2 k x0 x7 bt498.2.2.2.2 bt507.2.2.2.2 bt498.1 bt498.2.2.2.1 bt507.1 bt507.2.2.2.1 (bt507.2.2.2.2 != 0) x474000 x474001 bt498.2.1 bt498.2.2.1 bt507.2.1 bt507.2.2.1) else (comfitlaw06_TagsFewer.j2 k x0 x7 bt498.2.2.2.2 bt507.2.2.2.2 bt498.1 bt498.2.2.2.1 bt507.1 bt507.2.2.2.1 true x474000 x474001 bt498.2.1 bt498.2.2.1 bt507.2.1 bt507.2.2.1))))))
def comfitlaw06_TagsFewer.j2 : Nat → List (S39) → List (S57) → Int → Int → Int → Int → Int → Int → Bool → Int → Int → Int → Int → Int → Int → Option (Bool)
 | 0, _, _, _, _, _, _, _, _, _, _, _, _, _, _, _ => none
 | k + 1, x0, x7, x8, x10, x11, x13, x14, x16, x91, x474000, x474001, x504000, x504001, x513000, x513001 => if x91 = true then (if x8 = 2 then (if x10 = x8 then ((comfitlaw06_awake.f k).bind fun t513 => (some t513)) else (none)) else (none)) else (if x11 < 0 then (comfitlaw06_TagsFewer.j3 k x0 x7 x11 x13 x14 x16 true x474000 x474001 x504000 x504001 x513000 x513001) else (if x11 ≥ (x0.length : Int) then (comfitlaw06_TagsFewer.j3 k x0 x7 x11 x13 x14 x16 true x474000 x474001 x504000 x504001 x513000 x513001) else (if x14 < 0 then (comfitlaw06_TagsFewer.j3 k x0 x7 x11 x13 x14 x16 true x474000 x474001 x504000 x504001 x513000 x513001) else (comfitlaw06_TagsFewer.j3 k x0 x7 x11 x13 x14 x16 (decide (x14 ≥ (x7.length : Int))) x474000 x474001 x504000 x504001 x513000 x513001))))
def comfitlaw06_TagsFewer.j3 : Nat → List (S39) → List (S57) → Int → Int → Int → Int → Bool → Int → Int → Int → Int → Int → Int → Option (Bool)
 | 0, _, _, _, _, _, _, _, _, _, _, _, _, _ => none
 | k + 1, x0, x7, x11, x13, x14, x16, x119, x474000, x474001, x504000, x504001, x513000, x513001 => if x119 = true then (none) else ((comfitlaw06_Of.f k x0).bind fun t514 => ((tags_Ends.f k t514 x474000 x474001).bind fun bt517 => ((tags_Ends.f k x7 x474000 x474001).bind fun bt519 => (if (x504000 == x513000 && (x504001 == x513001)) = true then (if x13 = x16 then (if bt517.1 = bt519.1 then (if bt517.2 = bt519.2 then (if 0 ≤ x11 then (if x11 < (x0.length : Int) then ((comfitlaw06_own.f k x7).bind fun t522 => (if 0 ≤ x14 then (if x14 < (t522.length : Int) then (if ((rd_T39 x0 x11).f0) = ((rd_T39 t522 x14).f0) then ((comfitlaw06_own.f k x7).bind fun t527 => (if x14 < (t527.length : Int) then (if ((rd_T39 x0 x11).f1) = ((rd_T39 t527 x14).f1) then ((comfitlaw06_awake.f k).bind fun t531 => (some t531)) else (none)) else (none))) else (none)) else (none)) else (none))) else (none)) else (none)) else (none)) else (none)) else (none)) else (none)))))
end
def comfitlaw06_TagsFewer.f (k : Nat) (l0 : List (S39)) (a1_0 : Int) (a1_1 : Int) (a2 : Int) : Option (Bool) := (comfitlaw06_Of.f k l0).bind fun t474 => ((tags_Fewer.f t474).bind fun bt477 => (if bt477.2 = 0 then ((comfitref06_Machine.f k l0).bind fun t481 => (comfitlaw06_TagsFewer.j0 k l0 a2 bt477.1 bt477.2 (!t481) a1_0 a1_1)) else (comfitlaw06_TagsFewer.j0 k l0 a2 bt477.1 bt477.2 true a1_0 a1_1)))
def comfitlaw06_TagsFewer.T7 : Bool × List (List Nat × List Nat) := (true, [([], []), ([0], [0]), ([], []), ([], []), ([1, 2, 3, 1], [1, 2, 3]), ([4], [4]), ([5], [5]), ([5], [5]), ([5], [5]), ([5], [5]), ([], []), ([6, 4, 0, 1, 2, 3, 4, 5, 6, 10], [6]), ([10, 7, 11, 0, 1, 2, 3, 4, 5, 6, 7, 10, 11], [7, 10]), ([8, 12, 0, 1, 2, 3, 4, 5, 6, 7, 8, 10, 11, 12], [8]), ([9, 13, 0, 1, 2, 3, 4, 5, 6, 7, 8, 9, 10, 11, 12, 13], [9])])
def comfitlaw06_TagsFewer.B7 : List Nat := [0, 1, 0, 0, 15, 31, 63, 63, 63, 63, 0, 1151, 3327, 7679, 16383]
theorem comfitlaw06_TagsFewer.tab7 : rtab .any (opsOf Try.f8 7) = comfitlaw06_TagsFewer.T7 := by kernel_rfl
theorem comfitlaw06_TagsFewer.bits7 : waitsOk comfitlaw06_TagsFewer.T7.2 comfitlaw06_TagsFewer.B7 = true := by kernel_rfl
def comfitlaw06_TagsFewer.T8 : Bool × List (List Nat × List Nat) := (true, [([], []), ([0], [0]), ([], []), ([], []), ([1, 2, 3, 1], [1, 2, 3]), ([4], [4]), ([5], [5]), ([5], [5]), ([5], [5]), ([5], [5]), ([], []), ([6, 4, 0, 1, 2, 3, 4, 5, 6, 10], [6]), ([10, 7, 11, 0, 1, 2, 3, 4, 5, 6, 7, 10, 11], [7, 10]), ([8, 12, 0, 1, 2, 3, 4, 5, 6, 7, 8, 10, 11, 12], [8]), ([9, 13, 0, 1, 2, 3, 4, 5, 6, 7, 8, 9, 10, 11, 12, 13], [9])])
def comfitlaw06_TagsFewer.B8 : List Nat := [0, 1, 0, 0, 15, 31, 63, 63, 63, 63, 0, 1151, 3327, 7679, 16383]
theorem comfitlaw06_TagsFewer.tab8 : rtab .any (opsOf Try.f8 8) = comfitlaw06_TagsFewer.T8 := by kernel_rfl
theorem comfitlaw06_TagsFewer.bits8 : waitsOk comfitlaw06_TagsFewer.T8.2 comfitlaw06_TagsFewer.B8 = true := by kernel_rfl
def comfitlaw06_TagsFewer.T13 : Bool × List (List Nat × List Nat) := (true, [([], []), ([0], [0]), ([], []), ([1, 2, 1], [1, 2]), ([3], [3]), ([4], [4]), ([4], [4]), ([5, 3, 0, 1, 2, 3, 4, 5], [5]), ([6, 7, 0, 1, 2, 3, 4, 5, 6, 7], [6])])
def comfitlaw06_TagsFewer.B13 : List Nat := [0, 1, 0, 7, 15, 31, 31, 63, 255]
theorem comfitlaw06_TagsFewer.tab13 : rtab .any (opsOf Try.f8 13) = comfitlaw06_TagsFewer.T13 := by kernel_rfl
theorem comfitlaw06_TagsFewer.bits13 : waitsOk comfitlaw06_TagsFewer.T13.2 comfitlaw06_TagsFewer.B13 = true := by kernel_rfl
def comfitlaw06_TagsFewer.T15 : Bool × List (List Nat × List Nat) := (true, [([], []), ([], []), ([0, 1], [0, 1]), ([2], [2]), ([3], [3]), ([3], [3]), ([4, 5, 3], [3, 4, 5]), ([3, 6], [3, 6]), ([7, 3], [7]), ([8], [8]), ([8], [8]), ([9, 10, 8], [8, 9, 10]), ([8, 11], [8, 11]), ([12, 8], [12]), ([13], [13]), ([13], [13]), ([14, 15, 13], [13, 14, 15]), ([13, 16], [13, 16]), ([17, 13], [17]), ([18], [18]), ([18], [18]), ([19, 20, 18], [18, 19, 20]), ([21, 18], [18, 21]), ([22, 18], [18, 22]), ([18], [18]), ([24, 18, 18], [18, 24]), ([18], [18]), ([25, 26, 18], [18, 25, 26]), ([27, 18], [18, 27]), ([28, 18], [18, 28]), ([23, 29, 18], [18, 23, 29]), ([18, 30], [18, 30]), ([31, 25], [31]), ([32], [32]), ([32], [32]), ([33, 34, 32], [32, 33, 34]), ([35, 32], [32, 35]), ([36, 32], [32, 36]), ([32], [32]), ([38, 32, 32], [32, 38]), ([32], [32]), ([39, 40, 32], [32, 39, 40]), ([41, 32], [32, 41]), ([42, 32], [32, 42]), ([37, 43, 32], [32, 37, 43]), ([32, 44], [32, 44]), ([45, 39], [45]), ([46, 46], [46]), ([46, 47], [46, 47]), ([48, 47, 0, 1, 2, 3, 4, 5, 6, 7, 8, 9, 10, 11, 12, 13, 14, 15, 16, 17, 18, 19, 20, 21, 22, 23, 24, 25, 26, 27, 28, 29, 30, 31, 32, 33, 34, 35, 36, 37, 38, 39, 40, 41, 42, 43, 44, 45, 46, 47, 48], [48])])
def comfitlaw06_TagsFewer.B15 : List Nat := [0, 0, 3, 7, 15, 15, 63, 127, 255, 511, 511, 2047, 4095, 8191, 16383, 16383, 65535, 131071, 262143, 524287, 524287, 2097151, 4194303, 8388607, 524287, 17301503, 524287, 117964799, 252182527, 520617983, 1073741823, 2147483647, 4294967295, 8589934591, 8589934591, 34359738367, 68719476735, 137438953471, 8589934591, 283467841535, 8589934591, 1932735283199, 4131758538751, 8529805049855, 17592186044415, 35184372088831, 70368744177663, 140737488355327, 281474976710655, 562949953421311]
theorem comfitlaw06_TagsFewer.tab15 : rtab .any (opsOf Try.f8 15) = comfitlaw06_TagsFewer.T15 := by kernel_rfl
theorem comfitlaw06_TagsFewer.bits15 : waitsOk comfitlaw06_TagsFewer.T15.2 comfitlaw06_TagsFewer.B15 = true := by kernel_rfl

end Go.Proofs.Ytjmbjnobbeflfaa.X
