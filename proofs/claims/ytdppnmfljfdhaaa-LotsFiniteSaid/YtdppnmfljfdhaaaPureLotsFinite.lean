/- Finite returns the chance that at most c of some items of a finite lot are bad, or the documented error: for every input, no conditions. -/
import Derived.Test.YtdppnmfljfdhaaaMBin
import Derived.Test.YtdppnmfljfdhaaaXcomfitlaw02LotsFinite
set_option linter.unusedVariables false
set_option linter.unusedSimpArgs false
namespace Go.Proofs.Ytdppnmfljfdhaaa.Pure
open Go.RowKit Go.Proofs.Ytdppnmfljfdhaaa.X Go.Proofs.YtdppnmfljfdhaaaW.PrintWords Go.Proofs.YtdppnmfljfdhaaaW.PrintLast Go.Proofs.YtdppnmfljfdhaaaW.PrintMore

theorem LotsFinite : comfitlaw02_LotsFinite.Pure := by
  intro a b m c _ _ _ _
  refine Ev.get (g := fun k => comfitlaw02_LotsFinite.f k a b m c) ?_
  unfold comfitlaw02_LotsFinite.f
  by_cases h : okL a b m c
  · refine Ev.bind (Finite_ev a b m c h) ?_
    rw [Lot_ok, decide_eq_true h]
    simp only [Option.bind_some, if_true]
    refine Ev.bind (ref_Finite_ev a b m c h) ?_
    simp only [beq_self_eq_true, Bool.and_self, if_true]
    exact Ev.bind awake_ev (Ev.const rfl)
  · refine Ev.bind (Finite_no a b m c h) ?_
    rw [Lot_ok, decide_eq_false h]
    simp only [Option.bind_some, Bool.false_eq_true, if_false, if_true]
    have hn : comfitlaw02_none.f 0 0 = some true := by decide +kernel
    rw [hn]
    simp only [Option.bind_some, if_true]
    exact Ev.bind awake_ev (Ev.const rfl)
end Go.Proofs.Ytdppnmfljfdhaaa.Pure
