/- Written by a program of this session (wip/tools/xprint.py, which calls the kit's print): Go functions as Lean functions, and for each the proof that the machine's call does what it says; no conditions but those that each theorem names. -/
import Derived.Test.YtdppnmfljfdhaaaQX0
namespace Go.Proofs.Ytdppnmfljfdhaaa.X
open Go.RowKit Go.Proofs.YtdppnmfljfdhaaaW.PrintWords Go.Proofs.YtdppnmfljfdhaaaW.PrintLast Go.Proofs.YtdppnmfljfdhaaaW.PrintMore
attribute [local go_sem] max2_int min2_int max_two min_two max_three min_three max_four min_four   -- for this text's walks alone
set_option linter.unusedVariables false
set_option linter.unusedSimpArgs false

/-! ### comfitref02_Run: function 35 -/
mutual
def comfitref02_Run.l0 : Nat → List Bool → Int → List Bool → Int → Int → List Int → List Int → Option (Int × Bool)
 | 0, _, _, _, _, _, _, _ => none
 | k + 1, x1, x6, x9, x10, x11, x281000, x281001 => if x11 < x10 then (if 0 ≤ x11 then (if x11 < (x9.length : Int) then (if rdOf false x9 x11 = true then (comfitref02_Run.j1 k x1 (wrap64 (x6 + 1)) x11 x9 x10 x11 x281000 x281001) else (comfitref02_Run.j1 k x1 x6 x11 x9 x10 x11 x281000 x281001)) else (none)) else (none)) else (some ((x1.length : Int), false))
def comfitref02_Run.j1 : Nat → List Bool → Int → Int → List Bool → Int → Int → List Int → List Int → Option (Int × Bool)
 | 0, _, _, _, _, _, _, _, _ => none
 | k + 1, x1, x6, x7, x9, x10, x11, x281000, x281001 => if 0 ≤ x7 then (if x7 < (x281000.length : Int) then (if x6 ≤ (rd x281000 x7) then (some (wrap64 (x7 + 1), true)) else (if x7 < (x281001.length : Int) then (if x6 ≥ (rd x281001 x7) then (some (wrap64 (x7 + 1), false)) else (comfitref02_Run.l0 k x1 x6 x9 x10 (wrap64 (x11 + 1)) x281000 x281001)) else (none))) else (none)) else (none)
end
end Go.Proofs.Ytdppnmfljfdhaaa.X
