/- Plain laws of plans: what is valid, turned, run. -/
import Derived.Test.YtdppnmfljfdhaaaQMBase
import Derived.Test.YtdppnmfljfdhaaaQX0
import Derived.Test.YtdppnmfljfdhaaaQXP
set_option linter.unusedVariables false
set_option linter.unusedSimpArgs false
namespace Go.Proofs.Ytdppnmfljfdhaaa.Pure
open Go.RowKit Go.Proofs.Ytdppnmfljfdhaaa.X Go.Proofs.YtdppnmfljfdhaaaW.PrintWords Go.Proofs.YtdppnmfljfdhaaaW.PrintLast Go.Proofs.YtdppnmfljfdhaaaW.PrintMore

/-! ### Valid plans -/
/-- A valid plan, in words. -/
structure Ok (l0 l1 : List Int) : Prop where
  pos : 1 ≤ l0.length
  most : l0.length ≤ 12
  same : l1.length = l0.length
  at_ : ∀ j : Nat, j < l0.length → -1 ≤ rd l0 j ∧ rd l0 j ≤ l0.length ∧ 0 ≤ rd l1 j ∧ rd l1 j ≤ l0.length + 1 ∧ rd l0 j < rd l1 j
  last : rd l1 ((l0.length : Int) - 1) = rd l0 ((l0.length : Int) - 1) + 1
/-! ### Copies -/
/-! ### Turned plans -/
end Go.Proofs.Ytdppnmfljfdhaaa.Pure
