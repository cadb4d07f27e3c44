/- A world in which what the rows list reads as listed: the door's own, with the pinned table. -/
import Derived.Test.YtmlbdkkdejecmaaDoorRows
import Derived.ProofKit
import Derived.LaidMore
import Derived.Stop.Joined
namespace Go.Proofs.YtmlbdkkdejecmaaDoor.X
open Go
def laid2 : List (String × DataW Unit) := [("unicode/utf8.acceptRanges", Rows.laid_unicode_utf8_acceptRanges), ("unicode/utf8.first", Rows.laid_unicode_utf8_first)]
def firstVals : Array Value := match (Rows.laid_unicode_utf8_first : DataW Unit) with
  | .agg ds => (ds.map fun d => match d with
    | .lit (.int k n) => Value.int k n
    | _ => undef).toArray
  | _ => #[]
noncomputable def laidWorld (os : Os) : World := { World.doorLaid Tryd.prog 400 os with heap := (World.doorLaid Tryd.prog 400 os).heap.setIfInBounds 0 (.cells firstVals 91 (0, 0)) }
set_option maxRecDepth 100000 in
theorem door_met (os : Os) (args : Array Value) : laidMetH Tryd.prog laid2 ((laidWorld os).forCall (fun _ _ => 0) ⟨#[], args, []⟩).memory :=
  laidMetH_of_parts3 (fuel := 8) (laidMet_of_run' 8 (by kernel_rfl) (by kernel_rfl)) (by kernel_rfl) (by kernel_rfl)
end Go.Proofs.YtmlbdkkdejecmaaDoor.X
