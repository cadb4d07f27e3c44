/- Written by a program of this session (wip/tools/xprint.py, which calls the kit's print): Go functions as Lean functions, and for each the proof that the machine's call does what it says; no conditions but those that each theorem names. -/
import Derived.Test.YtjmbjnobbeflfaaQX0
import Derived.Test.YtjmbjnobbeflfaaQXE
import Derived.Test.YtjmbjnobbeflfaaQXEq
import Derived.Test.YtjmbjnobbeflfaaQXG
import Derived.Test.YtjmbjnobbeflfaaQXM
import Derived.Test.YtjmbjnobbeflfaaQXO
import Derived.Test.YtjmbjnobbeflfaaQXRJ
namespace Go.Proofs.Ytjmbjnobbeflfaa.X
open Go.RowKit Go.Proofs.YtjmbjnobbeflfaaW.PrintWords Go.Proofs.YtjmbjnobbeflfaaW.PrintLast Go.Proofs.YtjmbjnobbeflfaaW.PrintMore
attribute [local go_sem] max2_int min2_int max_two min_two max_three min_three max_four min_four   -- for this text's walks alone
set_option linter.unusedVariables false
set_option linter.unusedSimpArgs false

attribute [local go_sem high] eqA23
/-! ### comfitlaw06_TagsMore: function 4 -/
mutual
def comfitlaw06_TagsMore.j0 : Nat → List (S39) → Int → Int → Int → Bool → Int → Int → Option (Bool)
 | 0, _, _, _, _, _, _, _ => none
 | k + 1, x0, x2, x3, x4, x30, x263000, x263001 => if x30 = true then ((comfitlaw06_Of.f k x0).bind fun t265 => ((tags_Ends.f k t265 x263000 x263001).bind fun bt268 => (if bt268.2 = 2 then ((comfitlaw06_awake.f k).bind fun t270 => (some t270)) else (none)))) else (if (wrap64 (Int.tmod (IntKind.u64.wrap (x2)) 2)) = 0 then ((comfitref06_Jars.f (wrap64 (x263000 + (wrap64 (Int.tmod (IntKind.u64.wrap (x3)) 20)))) x263001).bind fun t272 => (if t272 = true then (comfitlaw06_TagsMore.l0 k x0 0 (wrap64 (Int.tmod (IntKind.u64.wrap (x3)) 20)) (wrap64 ((wrap64 (Int.tmod (IntKind.u64.wrap (x4)) 60)) + 1)) 0 x263000 x263001 (wrap64 (x263000 + (wrap64 (Int.tmod (IntKind.u64.wrap (x3)) 20)))) x263001) else ((comfitlaw06_awake.f k).bind fun t273 => (some t273)))) else (if (wrap64 (Int.tmod (IntKind.u64.wrap (x2)) 2)) = 1 then ((comfitref06_Jars.f x263000 (wrap64 (x263001 + (wrap64 (Int.tmod (IntKind.u64.wrap (x3)) 20))))).bind fun t299 => (if t299 = true then (comfitlaw06_TagsMore.l0 k x0 1 (wrap64 (Int.tmod (IntKind.u64.wrap (x3)) 20)) (wrap64 ((wrap64 (Int.tmod (IntKind.u64.wrap (x4)) 60)) + 1)) 0 x263000 x263001 x263000 (wrap64 (x263001 + (wrap64 (Int.tmod (IntKind.u64.wrap (x3)) 20))))) else ((comfitlaw06_awake.f k).bind fun t300 => (some t300)))) else (none)))
def comfitlaw06_TagsMore.l0 : Nat → List (S39) → Int → Int → Int → Int → Int → Int → Int → Int → Option (Bool)
 | 0, _, _, _, _, _, _, _, _, _ => none
 | k + 1, x0, x2, x3, x67, x68, x263000, x263001, x272000, x272001 => if x68 < x67 then ((comfitlaw06_Of.f k x0).bind fun t275 => ((tags_Go.f k t275 x263000 x263001 x68).bind fun bt278 => ((comfitlaw06_Of.f k x0).bind fun t284 => ((tags_Go.f k t284 x272000 x272001 x68).bind fun bt287 => (if bt278.2.2.2.2 = 0 then (if bt287.2.2.2.2 = 0 then (if bt278.1 < 0 then (comfitlaw06_TagsMore.j2 k x0 x2 x3 bt278.1 bt278.2.2.2.1 bt287.1 bt287.2.2.2.1 x67 x68 true x263000 x263001 x272000 x272001 bt278.2.1 bt278.2.2.1 bt287.2.1 bt287.2.2.1) else (comfitlaw06_TagsMore.j2 k x0 x2 x3 bt278.1 bt278.2.2.2.1 bt287.1 bt287.2.2.2.1 x67 x68 (decide (bt278.1 ≥ (x0.length : Int))) x263000 x263001 x272000 x272001 bt278.2.1 bt278.2.2.1 bt287.2.1 bt287.2.2.1)) else (comfitlaw06_TagsMore.j2 k x0 x2 x3 bt278.1 bt278.2.2.2.1 bt287.1 bt287.2.2.2.1 x67 x68 true x263000 x263001 x272000 x272001 bt278.2.1 bt278.2.2.1 bt287.2.1 bt287.2.2.1)) else (comfitlaw06_TagsMore.j2 k x0 x2 x3 bt278.1 bt278.2.2.2.1 bt287.1 bt287.2.2.2.1 x67 x68 true x263000 x263001 x272000 x272001 bt278.2.1 bt278.2.2.1 bt287.2.1 bt287.2.2.1)))))) else ((comfitlaw06_awake.f k).bind fun t274 => (some t274))
def comfitlaw06_TagsMore.j2 : Nat → List (S39) → Int → Int → Int → Int → Int → Int → Int → Int → Bool → Int → Int → Int → Int → Int → Int → Int → Int → Option (Bool)
 | 0, _, _, _, _, _, _, _, _, _, _, _, _, _, _, _, _, _, _ => none
 | k + 1, x0, x2, x3, x15, x17, x19, x21, x67, x68, x106, x263000, x263001, x272000, x272001, x284000, x284001, x293000, x293001 => if x106 = true then (none) else (if x2 = 0 then (if x15 = x19 then (if (!((wrap64 (x284000 + x3)) == x293000) || (!(x284001 == x293001))) = true then (comfitlaw06_TagsMore.j3 k x0 0 x3 x15 x67 x68 true x263000 x263001 x272000 x272001 (wrap64 (x284000 + x3)) x284001) else (comfitlaw06_TagsMore.j3 k x0 0 x3 x15 x67 x68 (x17 != x21) x263000 x263001 x272000 x272001 (wrap64 (x284000 + x3)) x284001)) else (comfitlaw06_TagsMore.j3 k x0 0 x3 x15 x67 x68 true x263000 x263001 x272000 x272001 (wrap64 (x284000 + x3)) x284001)) else (if x2 = 1 then (if x15 = x19 then (if (!(x284000 == x293000) || (!((wrap64 (x284001 + x3)) == x293001))) = true then (comfitlaw06_TagsMore.j5 k x0 1 x3 x15 x67 x68 true x263000 x263001 x272000 x272001 x284000 (wrap64 (x284001 + x3))) else (comfitlaw06_TagsMore.j5 k x0 1 x3 x15 x67 x68 (x17 != x21) x263000 x263001 x272000 x272001 x284000 (wrap64 (x284001 + x3)))) else (comfitlaw06_TagsMore.j5 k x0 1 x3 x15 x67 x68 true x263000 x263001 x272000 x272001 x284000 (wrap64 (x284001 + x3)))) else (none)))
def comfitlaw06_TagsMore.j3 : Nat → List (S39) → Int → Int → Int → Int → Int → Bool → Int → Int → Int → Int → Int → Int → Option (Bool)
 | 0, _, _, _, _, _, _, _, _, _, _, _, _, _ => none
 | k + 1, x0, x2, x3, x15, x67, x68, x125, x263000, x263001, x272000, x272001, x284000, x284001 => if x125 = true then (none) else (if 0 ≤ x15 then (if x15 < (x0.length : Int) then (if ((rd_T39 x0 x15).f0) = 2 then (if ((rd_T39 x0 x15).f1) = x2 then (if x2 = 0 then (comfitlaw06_TagsMore.j4 k x0 0 x3 x67 x68 (x284000 == x3) x263000 x263001 x272000 x272001) else (if x2 = 1 then (comfitlaw06_TagsMore.j4 k x0 1 x3 x67 x68 (x284001 == x3) x263000 x263001 x272000 x272001) else (none))) else (comfitlaw06_TagsMore.j4 k x0 x2 x3 x67 x68 false x263000 x263001 x272000 x272001)) else (comfitlaw06_TagsMore.j4 k x0 x2 x3 x67 x68 false x263000 x263001 x272000 x272001)) else (none)) else (none))
def comfitlaw06_TagsMore.j4 : Nat → List (S39) → Int → Int → Int → Int → Bool → Int → Int → Int → Int → Option (Bool)
 | 0, _, _, _, _, _, _, _, _, _, _ => none
 | k + 1, x0, x2, x3, x67, x68, x147, x263000, x263001, x272000, x272001 => if x147 = true then ((comfitlaw06_awake.f k).bind fun t295 => (some t295)) else (comfitlaw06_TagsMore.l0 k x0 x2 x3 x67 (wrap64 (x68 + 1)) x263000 x263001 x272000 x272001)
def comfitlaw06_TagsMore.j5 : Nat → List (S39) → Int → Int → Int → Int → Int → Bool → Int → Int → Int → Int → Int → Int → Option (Bool)
 | 0, _, _, _, _, _, _, _, _, _, _, _, _, _ => none
 | k + 1, x0, x2, x3, x15, x67, x68, x125, x263000, x263001, x272000, x272001, x284000, x284001 => if x125 = true then (none) else (if 0 ≤ x15 then (if x15 < (x0.length : Int) then (if ((rd_T39 x0 x15).f0) = 2 then (if ((rd_T39 x0 x15).f1) = x2 then (if x2 = 0 then (comfitlaw06_TagsMore.j6 k x0 0 x3 x67 x68 (x284000 == x3) x263000 x263001 x272000 x272001) else (if x2 = 1 then (comfitlaw06_TagsMore.j6 k x0 1 x3 x67 x68 (x284001 == x3) x263000 x263001 x272000 x272001) else (none))) else (comfitlaw06_TagsMore.j6 k x0 x2 x3 x67 x68 false x263000 x263001 x272000 x272001)) else (comfitlaw06_TagsMore.j6 k x0 x2 x3 x67 x68 false x263000 x263001 x272000 x272001)) else (none)) else (none))
def comfitlaw06_TagsMore.j6 : Nat → List (S39) → Int → Int → Int → Int → Bool → Int → Int → Int → Int → Option (Bool)
 | 0, _, _, _, _, _, _, _, _, _, _ => none
 | k + 1, x0, x2, x3, x67, x68, x147, x263000, x263001, x272000, x272001 => if x147 = true then ((comfitlaw06_awake.f k).bind fun t298 => (some t298)) else (comfitlaw06_TagsMore.l0 k x0 x2 x3 x67 (wrap64 (x68 + 1)) x263000 x263001 x272000 x272001)
end
def comfitlaw06_TagsMore.f (k : Nat) (l0 : List (S39)) (a1_0 : Int) (a1_1 : Int) (a2 : Int) (a3 : Int) (a4 : Int) : Option (Bool) := (comfitref06_Machine.f k l0).bind fun t263 => (if t263 = true then ((comfitref06_Jars.f a1_0 a1_1).bind fun t264 => (comfitlaw06_TagsMore.j0 k l0 a2 a3 a4 (!t264) a1_0 a1_1)) else (comfitlaw06_TagsMore.j0 k l0 a2 a3 a4 true a1_0 a1_1))
def comfitlaw06_TagsMore.T2 : Bool × List (List Nat × List Nat) := (true, [([], []), ([0], [0]), ([], []), ([1, 2, 1], [1, 2]), ([3], [3]), ([4], [4]), ([4], [4]), ([5, 3, 0, 1, 2, 3, 4, 5], [5]), ([6, 7, 0, 1, 2, 3, 4, 5, 6, 7], [6])])
def comfitlaw06_TagsMore.B2 : List Nat := [0, 1, 0, 7, 15, 31, 31, 63, 255]
theorem comfitlaw06_TagsMore.tab2 : rtab .any (opsOf Try.f4 2) = comfitlaw06_TagsMore.T2 := by kernel_rfl
theorem comfitlaw06_TagsMore.bits2 : waitsOk comfitlaw06_TagsMore.T2.2 comfitlaw06_TagsMore.B2 = true := by kernel_rfl
def comfitlaw06_TagsMore.T12 : Bool × List (List Nat × List Nat) := (true, [([], []), ([0], [0]), ([], []), ([], []), ([1, 2, 3, 1], [1, 2, 3]), ([4], [4]), ([5], [5]), ([5], [5]), ([5], [5]), ([5], [5]), ([], []), ([6, 4, 0, 1, 2, 3, 4, 5, 6, 10], [6]), ([10, 7, 11, 0, 1, 2, 3, 4, 5, 6, 7, 10, 11], [7, 10]), ([8, 12, 0, 1, 2, 3, 4, 5, 6, 7, 8, 10, 11, 12], [8]), ([9, 13, 0, 1, 2, 3, 4, 5, 6, 7, 8, 9, 10, 11, 12, 13], [9])])
def comfitlaw06_TagsMore.B12 : List Nat := [0, 1, 0, 0, 15, 31, 63, 63, 63, 63, 0, 1151, 3327, 7679, 16383]
theorem comfitlaw06_TagsMore.tab12 : rtab .any (opsOf Try.f4 12) = comfitlaw06_TagsMore.T12 := by kernel_rfl
theorem comfitlaw06_TagsMore.bits12 : waitsOk comfitlaw06_TagsMore.T12.2 comfitlaw06_TagsMore.B12 = true := by kernel_rfl
def comfitlaw06_TagsMore.T13 : Bool × List (List Nat × List Nat) := (true, [([], []), ([0], [0]), ([], []), ([], []), ([1, 2, 3, 1], [1, 2, 3]), ([4], [4]), ([5], [5]), ([5], [5]), ([5], [5]), ([5], [5]), ([], []), ([6, 4, 0, 1, 2, 3, 4, 5, 6, 10], [6]), ([10, 7, 11, 0, 1, 2, 3, 4, 5, 6, 7, 10, 11], [7, 10]), ([8, 12, 0, 1, 2, 3, 4, 5, 6, 7, 8, 10, 11, 12], [8]), ([9, 13, 0, 1, 2, 3, 4, 5, 6, 7, 8, 9, 10, 11, 12, 13], [9])])
def comfitlaw06_TagsMore.B13 : List Nat := [0, 1, 0, 0, 15, 31, 63, 63, 63, 63, 0, 1151, 3327, 7679, 16383]
theorem comfitlaw06_TagsMore.tab13 : rtab .any (opsOf Try.f4 13) = comfitlaw06_TagsMore.T13 := by kernel_rfl
theorem comfitlaw06_TagsMore.bits13 : waitsOk comfitlaw06_TagsMore.T13.2 comfitlaw06_TagsMore.B13 = true := by kernel_rfl

end Go.Proofs.Ytjmbjnobbeflfaa.X
