/- Plain laws of Pairs: the reference tells the same table. -/
import Derived.Test.YtigmhomfadimnaaQMPairs
set_option linter.unusedVariables false
set_option linter.unusedSimpArgs false
namespace Go.Proofs.Ytigmhomfadimnaa.Pure
open Go.RowKit Go.Proofs.Ytigmhomfadimnaa.X Go.Proofs.YtigmhomfadimnaaW.PrintWords Go.Proofs.YtigmhomfadimnaaW.PrintLast Go.Proofs.YtigmhomfadimnaaW.PrintMore
/-! ### The reference's Pairs -/
theorem need_lt_all : (List.range 4).all (fun m => (List.range (2 ^ m)).all fun s => decide (need (2 ^ m - 1) s < 3 ^ m)) = true := by decide +kernel
theorem need_lt {m s : Nat} (hm : m ≤ 3) (hs : s < 2 ^ m) : need (2 ^ m - 1) s < 3 ^ m := by
  have := List.all_eq_true.mp (List.all_eq_true.mp need_lt_all m (by simp; omega)) s (by simpa using hs)
  simpa using this
end Go.Proofs.Ytigmhomfadimnaa.Pure
