/- Single and Short return the plans of n and c, or the documented error: for every n and c, no conditions. -/
import Derived.Test.YtdppnmfljfdhaaaMSingle
import Derived.Test.YtdppnmfljfdhaaaXcomfitlaw02LotsPlans
set_option linter.unusedVariables false
set_option linter.unusedSimpArgs false
namespace Go.Proofs.Ytdppnmfljfdhaaa.Pure
open Go.RowKit Go.Proofs.Ytdppnmfljfdhaaa.X Go.Proofs.YtdppnmfljfdhaaaW.PrintWords Go.Proofs.YtdppnmfljfdhaaaW.PrintLast Go.Proofs.YtdppnmfljfdhaaaW.PrintMore

theorem LotsPlans : comfitlaw02_LotsPlans.Pure := by
  intro n c _ _
  refine Ev.get (g := fun k => comfitlaw02_LotsPlans.f k n c) ?_
  unfold comfitlaw02_LotsPlans.f comfitlaw02_own.f
  rw [Single_ok, Short_ok, Numbers_ok]
  simp only [Option.bind_some]
  cases h : isS n c with
  | false =>
    refine Ev.ifNeg (by decide) (Ev.ifPos (by simp [w_zero]) ?_)
    simp only [Bool.false_eq_true, if_false, if_true]
    exact Ev.bind awake_ev (Ev.const rfl)
  | true =>
    have hv := (isS_iff n c).1 h
    refine Ev.ifPos rfl (Ev.bind (ref_Single_ev h) ?_)
    simp only [if_true]
    refine Ev.bind (same_ev _ _ (by simp [singleT]; omega) (by simp [singleL]; omega)) (Ev.ifPos rfl (Ev.bind (ref_Short_ev h) (Ev.bind (same_ev _ _ (by rw [shT_length]; omega) (by rw [shL_length]; omega)) (Ev.ifPos rfl (Ev.bind awake_ev (Ev.const rfl))))))
end Go.Proofs.Ytdppnmfljfdhaaa.Pure
