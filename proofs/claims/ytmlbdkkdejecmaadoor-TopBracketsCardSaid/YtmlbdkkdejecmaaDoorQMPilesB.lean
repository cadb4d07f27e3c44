/- The piles of 7 leaves, reckoned by the kernel. -/
import Derived.Test.YtmlbdkkdejecmaaDoorQMPiles
set_option linter.unusedVariables false
set_option linter.unusedSimpArgs false
namespace Go.Proofs.YtmlbdkkdejecmaaDoor.Pure
open Go.RowKit Go.Proofs.YtmlbdkkdejecmaaDoor.X Go.Proofs.YtmlbdkkdejecmaaDoorW.PrintWords Go.Proofs.YtmlbdkkdejecmaaDoorW.PrintLast
theorem piles7_0 : allP 7 6 [0] = true := by decide +kernel
theorem piles7_1 : allP 7 6 [1] = true := by decide +kernel
theorem piles7_2 : allP 7 6 [2] = true := by decide +kernel
end Go.Proofs.YtmlbdkkdejecmaaDoor.Pure
