/- Written by a program of this session (wip/tools/xprint.py, which calls the kit's print): Go functions as Lean functions, and for each the proof that the machine's call does what it says; no conditions but those that each theorem names. -/
import Derived.Test.YtigmhomfadimnaaQX0
import Derived.Test.YtigmhomfadimnaaQXEq
namespace Go.Proofs.Ytigmhomfadimnaa.X
open Go.RowKit Go.Proofs.YtigmhomfadimnaaW.PrintWords Go.Proofs.YtigmhomfadimnaaW.PrintLast Go.Proofs.YtigmhomfadimnaaW.PrintMore
attribute [local go_sem] max2_int min2_int max_two min_two max_three min_three max_four min_four   -- for this text's walks alone
set_option linter.unusedVariables false
set_option linter.unusedSimpArgs false

attribute [local go_sem high] eqA25
/-! ### comfitlaw04_right: function 19 -/
def comfitlaw04_right.f (a0_0 : Int) (a0_1 : Int) (a1 : Int) : Option (Bool) := if a0_1 ≥ 1 then (if a0_0 ≥ 0 then (if a0_1 = 0 then (none) else (if (wrap64 (Int.tdiv a0_0 a0_1)) ≤ a1 then (if (wrap64 (Int.tdiv a0_0 a0_1)) < a1 then (some true) else (some ((Int.tmod a0_0 a0_1) == 0))) else (some false))) else (some false)) else (some false)
/-! ### comfitlaw04_none: function 27 -/
end Go.Proofs.Ytigmhomfadimnaa.X
