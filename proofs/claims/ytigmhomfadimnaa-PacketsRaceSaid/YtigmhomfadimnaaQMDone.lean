/- Plain laws of packets: the chances that a set is there, in the program and in the reference. -/
import Derived.Test.YtigmhomfadimnaaQHDone
import Derived.Test.YtigmhomfadimnaaQX0
import Derived.Test.YtigmhomfadimnaaQXR
import Derived.Test.YtigmhomfadimnaaQXS
import Derived.Test.YtigmhomfadimnaaQMBase
set_option linter.unusedVariables false
set_option linter.unusedSimpArgs false
namespace Go.Proofs.Ytigmhomfadimnaa.Pure
open Go.RowKit Go.Proofs.Ytigmhomfadimnaa.X Go.Proofs.YtigmhomfadimnaaW.PrintWords Go.Proofs.YtigmhomfadimnaaW.PrintLast Go.Proofs.YtigmhomfadimnaaW.PrintMore

/-! Plain laws of packets: the chances that a set is there, in the program and in the reference. -/
/-! Plain laws of packets: the chance of one kind. -/
theorem rd_ok (l : List Int) (h : okW l = true) (i : Nat) (hi : i < l.length) : 1 ≤ rd l (i : Int) ∧ rd l (i : Int) ≤ 9 := by
  rw [okW_iff] at h
  have : rd l (i : Int) = l[i] := by simp [rd, hi]
  rw [this]
  exact h.2.2 _ (List.getElem_mem hi)
end Go.Proofs.Ytigmhomfadimnaa.Pure
