/- Written by a program of this session (wip/tools/xprint.py, which calls the kit's print): Go functions as Lean functions, and for each the proof that the machine's call does what it says; no conditions but those that each theorem names. -/
import Derived.Test.YtjmbjnobbeflfaaQX0
import Derived.Test.YtjmbjnobbeflfaaQXE
import Derived.Test.YtjmbjnobbeflfaaQXEq
import Derived.Test.YtjmbjnobbeflfaaQXG
import Derived.Test.YtjmbjnobbeflfaaQXM
import Derived.Test.YtjmbjnobbeflfaaQXO
import Derived.Test.YtjmbjnobbeflfaaQXS
import Derived.Test.YtjmbjnobbeflfaaQXtagsAdds
import Derived.Test.YtjmbjnobbeflfaaQXtagsCircle
import Derived.Test.YtjmbjnobbeflfaaQHFewer
namespace Go.Proofs.Ytjmbjnobbeflfaa.X
open Go.RowKit Go.Proofs.YtjmbjnobbeflfaaW.PrintWords Go.Proofs.YtjmbjnobbeflfaaW.PrintLast Go.Proofs.YtjmbjnobbeflfaaW.PrintMore
attribute [local go_sem] max2_int min2_int max_two min_two max_three min_three max_four min_four   -- for this text's walks alone
set_option linter.unusedVariables false
set_option linter.unusedSimpArgs false

attribute [local go_sem high] eqA23
/-! ### comfitlaw06_TagsExchanged: function 9 -/
def comfitlaw06_TagsExchanged.l0 : Nat → List (S39) → Int → List (S57) → Int → Int → Int → Int → Option (Bool)
 | 0, _, _, _, _, _, _, _ => none
 | k + 1, x0, x2, x9, x49, x50, x533000, x533001 => if x50 < x49 then (if 0 ≤ x50 then (if x50 < (x9.length : Int) then (if ((rd_T57 x9 x50).f0) > 0 then (comfitlaw06_TagsExchanged.l0 k x0 x2 (x9.set (x50 : Int).toNat (⟨(rd_T57 x9 x50).f0, wrap64 (1 - ((rd_T57 x9 x50).f1)), (rd_T57 x9 x50).f2, (rd_T57 x9 x50).f3⟩ : S57)) x49 (wrap64 (x50 + 1)) x533000 x533001) else (comfitlaw06_TagsExchanged.l0 k x0 x2 x9 x49 (wrap64 (x50 + 1)) x533000 x533001)) else (none)) else (none)) else ((comfitlaw06_Of.f k x0).bind fun t549 => ((tags_Go.f k t549 x533000 x533001 x2).bind fun bt552 => ((tags_Order_28.f x9).bind fun t558 => ((tags_Go.f k t558 x533001 x533000 x2).bind fun bt561 => ((comfitlaw06_Of.f k x0).bind fun t567 => ((tags_Ends.f k t567 x533000 x533001).bind fun bt570 => ((tags_Order_28.f x9).bind fun t572 => ((tags_Ends.f k t572 x533001 x533000).bind fun bt575 => ((comfitlaw06_Of.f k x0).bind fun t577 => ((tags_Circle.f k t577 x533000 x533001).bind fun bt580 => ((tags_Order_28.f x9).bind fun t584 => ((tags_Circle.f k t584 x533001 x533000).bind fun bt587 => ((comfitlaw06_Of.f k x0).bind fun t591 => ((tags_Adds.f k t591 0).bind fun bt594 => ((tags_Adds.f k x9 1).bind fun bt596 => (if bt552.1 = bt561.1 then (if (bt552.2.1 == bt561.2.2.1 && (bt552.2.2.1 == bt561.2.1)) = true then (if bt552.2.2.2.1 = bt561.2.2.2.1 then (if bt552.2.2.2.2 = bt561.2.2.2.2 then (if bt570.1 = bt575.1 then (if bt570.2 = bt575.2 then (if (bt580.1 == bt587.1 && (bt580.2.1 == bt587.2.1)) = true then (if bt580.2.2 = bt587.2.2 then (if (bt594.1 == bt596.1) = true then (if bt594.2 = bt596.2 then ((comfitlaw06_awake.f k).bind fun t598 => (some t598)) else (none)) else (none)) else (none)) else (none)) else (none)) else (none)) else (none)) else (none)) else (none)) else (none)))))))))))))))))
def comfitlaw06_TagsExchanged.f (k : Nat) (l0 : List (S39)) (a1_0 : Int) (a1_1 : Int) (a2 : Int) : Option (Bool) := (comfitref06_Machine.f k l0).bind fun t533 => (if t533 = true then ((comfitlaw06_Of.f k l0).bind fun t542 => (comfitlaw06_TagsExchanged.l0 k l0 a2 t542 (t542.length : Int) 0 a1_0 a1_1)) else ((comfitlaw06_Of.f k l0).bind fun t534 => ((tags_Fewer.f t534).bind fun bt537 => (if bt537.2 = 2 then ((comfitlaw06_awake.f k).bind fun t541 => (some t541)) else (none)))))
def comfitlaw06_TagsExchanged.T12 : Bool × List (List Nat × List Nat) := (true, [([], []), ([0], [0]), ([], []), ([], []), ([1, 2, 3, 1], [1, 2, 3]), ([4], [4]), ([5], [5]), ([5], [5]), ([5], [5]), ([5], [5]), ([], []), ([6, 4, 0, 1, 2, 3, 4, 5, 6, 10], [6]), ([10, 7, 11, 0, 1, 2, 3, 4, 5, 6, 7, 10, 11], [7, 10]), ([8, 12, 0, 1, 2, 3, 4, 5, 6, 7, 8, 10, 11, 12], [8]), ([9, 13, 0, 1, 2, 3, 4, 5, 6, 7, 8, 9, 10, 11, 12, 13], [9])])
def comfitlaw06_TagsExchanged.B12 : List Nat := [0, 1, 0, 0, 15, 31, 63, 63, 63, 63, 0, 1151, 3327, 7679, 16383]
theorem comfitlaw06_TagsExchanged.tab12 : rtab .any (opsOf Try.f9 12) = comfitlaw06_TagsExchanged.T12 := by kernel_rfl
theorem comfitlaw06_TagsExchanged.bits12 : waitsOk comfitlaw06_TagsExchanged.T12.2 comfitlaw06_TagsExchanged.B12 = true := by kernel_rfl
def comfitlaw06_TagsExchanged.T13 : Bool × List (List Nat × List Nat) := (true, [([], []), ([0], [0]), ([], []), ([], []), ([1, 2, 3, 1], [1, 2, 3]), ([4], [4]), ([5], [5]), ([5], [5]), ([5], [5]), ([5], [5]), ([], []), ([6, 4, 0, 1, 2, 3, 4, 5, 6, 10], [6]), ([10, 7, 11, 0, 1, 2, 3, 4, 5, 6, 7, 10, 11], [7, 10]), ([8, 12, 0, 1, 2, 3, 4, 5, 6, 7, 8, 10, 11, 12], [8]), ([9, 13, 0, 1, 2, 3, 4, 5, 6, 7, 8, 9, 10, 11, 12, 13], [9])])
def comfitlaw06_TagsExchanged.B13 : List Nat := [0, 1, 0, 0, 15, 31, 63, 63, 63, 63, 0, 1151, 3327, 7679, 16383]
theorem comfitlaw06_TagsExchanged.tab13 : rtab .any (opsOf Try.f9 13) = comfitlaw06_TagsExchanged.T13 := by kernel_rfl
theorem comfitlaw06_TagsExchanged.bits13 : waitsOk comfitlaw06_TagsExchanged.T13.2 comfitlaw06_TagsExchanged.B13 = true := by kernel_rfl
def comfitlaw06_TagsExchanged.T14 : Bool × List (List Nat × List Nat) := (true, [([], []), ([0], [0]), ([], []), ([1, 2, 1], [1, 2]), ([3], [3]), ([4], [4]), ([4], [4]), ([5, 3, 0, 1, 2, 3, 4, 5], [5]), ([6, 7, 0, 1, 2, 3, 4, 5, 6, 7], [6])])
def comfitlaw06_TagsExchanged.B14 : List Nat := [0, 1, 0, 7, 15, 31, 31, 63, 255]
theorem comfitlaw06_TagsExchanged.tab14 : rtab .any (opsOf Try.f9 14) = comfitlaw06_TagsExchanged.T14 := by kernel_rfl
theorem comfitlaw06_TagsExchanged.bits14 : waitsOk comfitlaw06_TagsExchanged.T14.2 comfitlaw06_TagsExchanged.B14 = true := by kernel_rfl
def comfitlaw06_TagsExchanged.T15 : Bool × List (List Nat × List Nat) := (true, [([], []), ([0], [0]), ([], []), ([1, 2, 1], [1, 2]), ([3], [3]), ([4], [4]), ([4], [4]), ([5, 3, 0, 1, 2, 3, 4, 5], [5]), ([6, 7, 0, 1, 2, 3, 4, 5, 6, 7], [6])])
def comfitlaw06_TagsExchanged.B15 : List Nat := [0, 1, 0, 7, 15, 31, 31, 63, 255]
theorem comfitlaw06_TagsExchanged.tab15 : rtab .any (opsOf Try.f9 15) = comfitlaw06_TagsExchanged.T15 := by kernel_rfl
theorem comfitlaw06_TagsExchanged.bits15 : waitsOk comfitlaw06_TagsExchanged.T15.2 comfitlaw06_TagsExchanged.B15 = true := by kernel_rfl
def comfitlaw06_TagsExchanged.T16 : Bool × List (List Nat × List Nat) := (true, [([], []), ([0], [0]), ([], []), ([1, 2, 1], [1, 2]), ([3], [3]), ([4], [4]), ([4], [4]), ([], []), ([7, 5, 3, 0, 1, 2, 3, 4, 5, 7], [5, 7]), ([6, 8, 0, 1, 2, 3, 4, 5, 6, 7, 8], [6])])
def comfitlaw06_TagsExchanged.B16 : List Nat := [0, 1, 0, 7, 15, 31, 31, 0, 191, 511]
theorem comfitlaw06_TagsExchanged.tab16 : rtab .any (opsOf Try.f9 16) = comfitlaw06_TagsExchanged.T16 := by kernel_rfl
theorem comfitlaw06_TagsExchanged.bits16 : waitsOk comfitlaw06_TagsExchanged.T16.2 comfitlaw06_TagsExchanged.B16 = true := by kernel_rfl
def comfitlaw06_TagsExchanged.T17 : Bool × List (List Nat × List Nat) := (true, [([], []), ([0], [0]), ([], []), ([1, 2, 1], [1, 2]), ([3], [3]), ([4], [4]), ([4], [4]), ([], []), ([7, 5, 3, 0, 1, 2, 3, 4, 5, 7], [5, 7]), ([6, 8, 0, 1, 2, 3, 4, 5, 6, 7, 8], [6])])
def comfitlaw06_TagsExchanged.B17 : List Nat := [0, 1, 0, 7, 15, 31, 31, 0, 191, 511]
theorem comfitlaw06_TagsExchanged.tab17 : rtab .any (opsOf Try.f9 17) = comfitlaw06_TagsExchanged.T17 := by kernel_rfl
theorem comfitlaw06_TagsExchanged.bits17 : waitsOk comfitlaw06_TagsExchanged.T17.2 comfitlaw06_TagsExchanged.B17 = true := by kernel_rfl

end Go.Proofs.Ytjmbjnobbeflfaa.X
