/- The walk through the law LotsTwice, which hands a plan away and reads it afterwards: told by the results that its calls are known to have. -/
import Derived.Test.YtdppnmfljfdhaaaQHBoxes
import Derived.Test.YtdppnmfljfdhaaaQXLO
import Derived.Test.YtdppnmfljfdhaaaQXR
import Derived.Test.YtdppnmfljfdhaaaQXS
import Derived.Test.YtdppnmfljfdhaaaQXcomfitlaw02awake
import Derived.Test.YtdppnmfljfdhaaaQXlotsRun
import Derived.Test.YtdppnmfljfdhaaaQX0
import Derived.Test.YtdppnmfljfdhaaaQXP
set_option linter.unusedVariables false
set_option linter.unusedSimpArgs false
namespace Go.Proofs.Ytdppnmfljfdhaaa.X
open Go.RowKit Go.Proofs.YtdppnmfljfdhaaaW.PrintWords Go.Proofs.YtdppnmfljfdhaaaW.PrintLast Go.Proofs.YtdppnmfljfdhaaaW.PrintMore
attribute [local go_sem] max2_int min2_int max_two min_two max_three min_three max_four min_four
attribute [local go_sem] Oper.semAt_some

/-- A variable of two cells, and what lay before. -/
def CS (g : Nat) (u0 u1 : Value) (w w7 W : World) : Prop := W.cell? ⟨g, 0, none⟩ = some u0 ∧ W.cell? ⟨g, 1, none⟩ = some u1 ∧ Below w.heap.size w W ∧ Below w7.heap.size w7 W
theorem CS.below {g : Nat} {u0 u1 : Value} {w w7 W W1 : World} (h : CS g u0 u1 w w7 W) (hb : Below W.heap.size W W1) : CS g u0 u1 w w7 W1 :=
  ⟨(hb.cell (World.block_lt_of_cell? W _ h.1)).trans h.1, (hb.cell (World.block_lt_of_cell? W _ h.2.1)).trans h.2.1, below_step h.2.2.1 hb, below_step h.2.2.2 hb⟩
theorem Box.cs {g : Nat} {u0 u1 : Value} {t : TypeId} {w W : World} (h : Box w g #[u0, u1] t W) (hb : Below w.heap.size w W) : CS g u0 u1 w W W.drew :=
  ⟨h.cell 0 rfl, h.cell 1 rfl, below_drew hb, below_drew (Below.refl _ _)⟩
end Go.Proofs.Ytdppnmfljfdhaaa.X
