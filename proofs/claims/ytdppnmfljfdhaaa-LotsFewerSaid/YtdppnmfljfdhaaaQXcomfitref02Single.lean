/- Written by a program of this session (wip/tools/xprint.py, which calls the kit's print): Go functions as Lean functions, and for each the proof that the machine's call does what it says; no conditions but those that each theorem names. -/
import Derived.Test.YtdppnmfljfdhaaaQX0
namespace Go.Proofs.Ytdppnmfljfdhaaa.X
open Go.RowKit Go.Proofs.YtdppnmfljfdhaaaW.PrintWords Go.Proofs.YtdppnmfljfdhaaaW.PrintLast Go.Proofs.YtdppnmfljfdhaaaW.PrintMore
attribute [local go_sem] max2_int min2_int max_two min_two max_three min_three max_four min_four   -- for this text's walks alone
set_option linter.unusedVariables false
set_option linter.unusedSimpArgs false

/-! ### comfitref02_Single: function 48 -/
def comfitref02_Single.l0 : Nat → Int → Int → Int → Int → List Int → List Int → Option (List Int × List Int)
 | 0, _, _, _, _, _, _ => none
 | k + 1, x0, x1, x6, x7, x637000, x637001 => if x7 < x6 then (if x637000.length < 17592186044416 then (if x637001.length < 17592186044416 then (comfitref02_Single.l0 k x0 x1 x6 (wrap64 (x7 + 1)) (x637000 ++ [(-1)]) (x637001 ++ [wrap64 (x0 + 1)])) else (none)) else (none)) else (if 0 ≤ (wrap64 (x0 - 1)) then (if (wrap64 (x0 - 1)) < (x637000.length : Int) then (if (wrap64 (x0 - 1)) < (x637001.length : Int) then (some ((x637000.set ((wrap64 (x0 - 1)) : Int).toNat x1), (x637001.set ((wrap64 (x0 - 1)) : Int).toNat (wrap64 (x1 + 1))))) else (none)) else (none)) else (none))
def comfitref02_Single.f (k : Nat) (a0 : Int) (a1 : Int) : Option (List Int × List Int) := comfitref02_Single.l0 k a0 a1 a0 0 ([] : List Int) ([] : List Int)
end Go.Proofs.Ytdppnmfljfdhaaa.X
