/- Run returns how many items are looked at, and whether the lot is taken, or the documented error: for every plan and all items, no conditions. -/
import Derived.Test.YtdppnmfljfdhaaaMRun
import Derived.Test.YtdppnmfljfdhaaaXcomfitlaw02LotsRuns
set_option linter.unusedVariables false
set_option linter.unusedSimpArgs false
namespace Go.Proofs.Ytdppnmfljfdhaaa.Pure
open Go.RowKit Go.Proofs.Ytdppnmfljfdhaaa.X Go.Proofs.YtdppnmfljfdhaaaW.PrintWords Go.Proofs.YtdppnmfljfdhaaaW.PrintLast Go.Proofs.YtdppnmfljfdhaaaW.PrintMore

theorem LotsRuns (l0 l1 : List Int) (it : List Bool) (_ : l0.length ≤ maxLen) (_ : ∀ x ∈ l0, (Lit.int .i64 x).wf = true) (_ : l1.length ≤ maxLen) (_ : ∀ x ∈ l1, (Lit.int .i64 x).wf = true) (_ : it.length ≤ maxLen) : ∃ k, comfitlaw02_LotsRuns.f k l0 l1 it = some true := by
  refine Ev.get (g := fun k => comfitlaw02_LotsRuns.f k l0 l1 it) ?_
  unfold comfitlaw02_LotsRuns.f
  rw [Of_ok]
  simp only [Option.bind_some]
  refine Ev.ifPos (by unfold mn; split <;> omega) (Ev.ifPos (by unfold mn; split <;> omega) ?_)
  have hc := cloneB_ok it
  rw [if_pos (by unfold mn; split <;> omega), if_pos (by unfold mn; split <;> omega)] at hc
  rw [hc]
  simp only [Option.bind_some]
  by_cases h : okP l0 l1 = true ∧ it.length = l0.length
  · obtain ⟨h, hit⟩ := h
    have ok := (okP_iff l0 l1).1 h
    obtain ⟨e0, e1⟩ := take_ok ok
    have hm := ok.most
    rw [e0, e1, List.take_of_length_le (by omega : it.length ≤ 15)]
    refine Ev.bind (Run_ev ok it hit) (Ev.bind (ref_valid_ev l0 l1) ?_)
    rw [h]
    refine Ev.ifPos rfl ?_
    have e : ((it.length : Int) != (l0.length : Int)) = false := by simp; omega
    rw [e]
    refine Ev.succ (g := fun k => (comfitref02_Run.f k l0 l1 it).bind fun bt300 => (if (run l0 l1 it 0 0).1 = bt300.1 then (if ((run l0 l1 it 0 0).2 == bt300.2) = true then (if (0 : Int) = 0 then ((comfitlaw02_awake.f k).bind fun t302 => (some t302)) else (some false)) else (some false)) else (some false))) ?_ (fun k => by rw [comfitlaw02_LotsRuns.j0, if_neg (by decide)])
    refine Ev.bind (ref_Run_ev ok it hit) (Ev.ifPos rfl (Ev.ifPos (by simp) (Ev.ifPos rfl (Ev.bind awake_ev (Ev.const rfl)))))
  · have hno : okP (l0.take 15) (l1.take 15) = false ∨ (it.take 15).length ≠ (l0.take 15).length := by
      cases ho : okP l0 l1 with
      | false => exact Or.inl (by rw [okP_take]; exact ho)
      | true =>
        have ok := (okP_iff l0 l1).1 ho
        have hm := ok.most
        have hne : it.length ≠ l0.length := fun e => h ⟨ho, e⟩
        exact Or.inr (by rw [List.length_take, List.length_take]; omega)
    have hj : Ev (fun k => comfitlaw02_LotsRuns.j0 k it 0 false 2 true l0 l1) true := by
      refine Ev.succ (g := fun k => (comfitlaw02_awake.f k).bind fun t299 => (some t299)) (Ev.bind awake_ev (Ev.const rfl)) (fun k => ?_)
      rw [comfitlaw02_LotsRuns.j0, if_pos rfl, if_pos rfl, if_neg (by decide), if_pos rfl]
    refine Ev.bind (Run_no _ _ _ hno) (Ev.bind (ref_valid_ev l0 l1) ?_)
    cases ho : okP l0 l1 with
    | false => exact Ev.ifNeg (by decide) hj
    | true =>
      have e : ((it.length : Int) != (l0.length : Int)) = true := by
        have hne : it.length ≠ l0.length := fun e => h ⟨ho, e⟩
        simp; omega
      rw [e]
      exact Ev.ifPos rfl hj
end Go.Proofs.Ytdppnmfljfdhaaa.Pure
