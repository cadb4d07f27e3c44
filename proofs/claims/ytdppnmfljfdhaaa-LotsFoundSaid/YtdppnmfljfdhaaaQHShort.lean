/- The contract of lots.Short. -/
import Derived.Test.YtdppnmfljfdhaaaQHSingle
set_option linter.unusedVariables false
set_option linter.unusedSimpArgs false
namespace Go.Proofs.Ytdppnmfljfdhaaa.X
open Go.RowKit Go.Proofs.YtdppnmfljfdhaaaW.PrintWords Go.Proofs.YtdppnmfljfdhaaaW.PrintLast Go.Proofs.YtdppnmfljfdhaaaW.PrintMore
attribute [local go_sem] Oper.semAt_some max2_int min2_int max_two min_two

def isS (n c : Int) : Bool := decide (1 ≤ n ∧ n ≤ 12 ∧ 0 ≤ c ∧ c < n)
theorem isS_ok (n c : Int) : lots_isSingle.f n c = some (isS n c) := by
  unfold lots_isSingle.f isS
  repeat' split
  all_goals simp only [Option.some.injEq]
  all_goals first
    | (symm; apply decide_eq_false; omega)
    | (apply decide_eq_decide.2; omega)
/-- The thresholds of the plan cut short, at place i. -/
def stT (n c : Int) (i : Nat) : Int := mx (c - (n - i - 1)) (-1)
/-- The rows when the first j places are done. -/
def shT (n c : Int) (j : Nat) : List Int := (List.range n.toNat).map fun i => if i < j then stT n c i else (singleT n c).getD i 0
def shL (n c : Int) (j : Nat) : List Int := (List.range n.toNat).map fun i => if i < j then c + 1 else (singleL n c).getD i 0
def shrT.B7 : List Nat := [0, 1, 0, 0, 8, 0, 0, 0, 0, 384, 896, 1984, 4032, 0, 8192, 8135, 40903, 131071, 262143]
end Go.Proofs.Ytdppnmfljfdhaaa.X
