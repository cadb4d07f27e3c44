/- Turn returns the plan with good and bad exchanged, or the documented error: for every plan, no conditions. -/
import Derived.Test.YtdppnmfljfdhaaaMPlan
import Derived.Test.YtdppnmfljfdhaaaXcomfitlaw02LotsTurns
set_option linter.unusedVariables false
set_option linter.unusedSimpArgs false
namespace Go.Proofs.Ytdppnmfljfdhaaa.Pure
open Go.RowKit Go.Proofs.Ytdppnmfljfdhaaa.X Go.Proofs.YtdppnmfljfdhaaaW.PrintWords Go.Proofs.YtdppnmfljfdhaaaW.PrintLast Go.Proofs.YtdppnmfljfdhaaaW.PrintMore

theorem LotsTurns (l0 l1 : List Int) (_ : l0.length ≤ maxLen) (_ : ∀ x ∈ l0, (Lit.int .i64 x).wf = true) (_ : l1.length ≤ maxLen) (_ : ∀ x ∈ l1, (Lit.int .i64 x).wf = true) : ∃ k, comfitlaw02_LotsTurns.f k l0 l1 = some true := by
  refine Ev.get (g := fun k => comfitlaw02_LotsTurns.f k l0 l1) ?_
  unfold comfitlaw02_LotsTurns.f
  rw [Of_ok]
  simp only [Option.bind_some]
  cases h : okP l0 l1 with
  | false =>
    refine Ev.bind (Turn_no (by rw [okP_take]; exact h)) (Ev.bind (ref_valid_ev l0 l1) ?_)
    rw [h]
    refine Ev.ifNeg (by decide) (Ev.ifPos (by simp; exact w_zero) (Ev.ifPos rfl (Ev.bind awake_ev (Ev.const rfl))))
  | true =>
    have ok := (okP_iff l0 l1).1 h
    obtain ⟨e0, e1⟩ := take_ok ok
    rw [e0, e1]
    have hm := ok.most
    refine Ev.bind (Turn_ev ok) (Ev.bind (ref_valid_ev l0 l1) ?_)
    rw [h]
    refine Ev.ifPos rfl ?_
    unfold comfitlaw02_own.f
    simp only [Option.bind_some]
    refine Ev.bind (ref_Turn_ev ok) (Ev.bind (same_ev _ _ (by simp; omega) (by simp; omega)) (Ev.ifPos rfl (Ev.ifPos (by trivial) (Ev.bind awake_ev (Ev.const rfl)))))
end Go.Proofs.Ytdppnmfljfdhaaa.Pure
