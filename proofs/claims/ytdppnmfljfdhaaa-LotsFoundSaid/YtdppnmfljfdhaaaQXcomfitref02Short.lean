/- Written by a program of this session (wip/tools/xprint.py, which calls the kit's print): Go functions as Lean functions, and for each the proof that the machine's call does what it says; no conditions but those that each theorem names. -/
import Derived.Test.YtdppnmfljfdhaaaQX0
namespace Go.Proofs.Ytdppnmfljfdhaaa.X
open Go.RowKit Go.Proofs.YtdppnmfljfdhaaaW.PrintWords Go.Proofs.YtdppnmfljfdhaaaW.PrintLast Go.Proofs.YtdppnmfljfdhaaaW.PrintMore
attribute [local go_sem] max2_int min2_int max_two min_two max_three min_three max_four min_four   -- for this text's walks alone
set_option linter.unusedVariables false
set_option linter.unusedSimpArgs false

/-! ### comfitref02_Short: function 49 -/
def comfitref02_Short.l0 : Nat → Int → Int → Int → List Int → List Int → Option (List Int × List Int)
 | 0, _, _, _, _, _ => none
 | k + 1, x0, x1, x6, x647000, x647001 => if x6 ≤ x0 then (if x647000.length < 17592186044416 then (if x647001.length < 17592186044416 then (comfitref02_Short.l0 k x0 x1 (wrap64 (x6 + 1)) (x647000 ++ [mx (-1) (wrap64 ((wrap64 (x1 - x0)) + x6))]) (x647001 ++ [wrap64 (x1 + 1)])) else (none)) else (none)) else (some (x647000, x647001))
def comfitref02_Short.f (k : Nat) (a0 : Int) (a1 : Int) : Option (List Int × List Int) := comfitref02_Short.l0 k a0 a1 1 ([] : List Int) ([] : List Int)
end Go.Proofs.Ytdppnmfljfdhaaa.X
