/- The piles of 7 leaves, reckoned by the kernel. -/
import Derived.Test.YtmlbdkkdejecmaaDoorQMPilesB
import Derived.Test.YtmlbdkkdejecmaaDoorQMPilesC
import Derived.Test.YtmlbdkkdejecmaaDoorQMPilesD
set_option linter.unusedVariables false
set_option linter.unusedSimpArgs false
namespace Go.Proofs.YtmlbdkkdejecmaaDoor.Pure
open Go.RowKit Go.Proofs.YtmlbdkkdejecmaaDoor.X Go.Proofs.YtmlbdkkdejecmaaDoorW.PrintWords Go.Proofs.YtmlbdkkdejecmaaDoorW.PrintLast
theorem piles7 : allP 7 7 [] = true := by
  show ([0, 1, 2, 3, 4, 5, 6].all fun x => ([] : List Nat).contains x || allP 7 6 ([] ++ [x])) = true
  simp only [List.all_cons, List.all_nil, List.nil_append, piles7_0, piles7_1, piles7_2, piles7_3, piles7_4, piles7_5, piles7_6, Bool.or_true, Bool.and_true]
end Go.Proofs.YtmlbdkkdejecmaaDoor.Pure
