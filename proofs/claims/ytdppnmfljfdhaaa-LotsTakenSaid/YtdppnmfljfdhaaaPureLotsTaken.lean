/- Taken returns the chance that a lot is taken, and Looks how many items are looked at on the average, or the documented error: for every plan and chance, no conditions. -/
import Derived.Test.YtdppnmfljfdhaaaMChance
import Derived.Test.YtdppnmfljfdhaaaXcomfitlaw02LotsTaken
set_option linter.unusedVariables false
set_option linter.unusedSimpArgs false
namespace Go.Proofs.Ytdppnmfljfdhaaa.Pure
open Go.RowKit Go.Proofs.Ytdppnmfljfdhaaa.X Go.Proofs.YtdppnmfljfdhaaaW.PrintWords Go.Proofs.YtdppnmfljfdhaaaW.PrintLast Go.Proofs.YtdppnmfljfdhaaaW.PrintMore

theorem LotsTaken (l0 l1 : List Int) (y o : Int) (_ : l0.length ≤ maxLen) (_ : ∀ x ∈ l0, (Lit.int .i64 x).wf = true) (_ : l1.length ≤ maxLen) (_ : ∀ x ∈ l1, (Lit.int .i64 x).wf = true) (_ : (Lit.int .i64 y).wf = true) (_ : (Lit.int .i64 o).wf = true) : ∃ k, comfitlaw02_LotsTaken.f k l0 l1 y o = some true := by
  refine Ev.get (g := fun k => comfitlaw02_LotsTaken.f k l0 l1 y o) ?_
  unfold comfitlaw02_LotsTaken.f comfitlaw02_chance.f
  rw [Of_ok]
  simp only [Option.bind_some]
  by_cases h : okP l0 l1 = true ∧ okC y o
  · obtain ⟨h, hc⟩ := h
    have ok := (okP_iff l0 l1).1 h
    obtain ⟨e0, e1⟩ := take_ok ok
    rw [e0, e1]
    refine Ev.bind (Taken_ev ok hc) (Ev.bind (Looks_ev ok hc) (Ev.bind (ref_valid_ev l0 l1) ?_))
    rw [h]
    refine Ev.ifPos rfl ?_
    rw [Is_ok, decide_eq_true hc]
    simp only [Option.bind_some, Bool.not_true]
    refine Ev.succ (g := fun k => (comfitref02_Taken.f k l0 l1 y o).bind fun bt223 => (if ((fr (Rat.divInt (sTaken l0 l1 y o) (o ^ l0.length))).1 == bt223.1 && ((fr (Rat.divInt (sTaken l0 l1 y o) (o ^ l0.length))).2 == bt223.2)) = true then ((comfitref02_Looks.f k l0 l1 y o).bind fun bt225 => (if ((fr (Rat.divInt (sLooks l0 l1 y o) (o ^ l0.length))).1 == bt225.1 && ((fr (Rat.divInt (sLooks l0 l1 y o) (o ^ l0.length))).2 == bt225.2)) = true then (if (0 : Int) = 0 then (if (0 : Int) = 0 then ((comfitlaw02_awake.f k).bind fun t227 => (some t227)) else (some false)) else (some false)) else (some false))) else (some false))) ?_ (fun k => by rw [comfitlaw02_LotsTaken.j0, if_neg (by decide)])
    exact Ev.bind (ref_Taken_ev ok hc) (Ev.ifPos (by simp) (Ev.bind (ref_Looks_ev ok hc) (Ev.ifPos (by simp) (Ev.ifPos rfl (Ev.ifPos rfl (Ev.bind awake_ev (Ev.const rfl)))))))
  · have hno : okP (l0.take 15) (l1.take 15) = false ∨ ¬ okC y o := by
      rw [okP_take]
      cases ho : okP l0 l1 with
      | false => exact Or.inl rfl
      | true => exact Or.inr (fun hc => h ⟨ho, hc⟩)
    have hn : comfitlaw02_none.f 0 0 = some true := by decide +kernel
    have hj : Ev (fun k => comfitlaw02_LotsTaken.j0 k 2 2 true l0 l1 y o 0 0 0 0) true := by
      refine Ev.succ (g := fun k => (comfitlaw02_awake.f k).bind fun t222 => (some t222)) (Ev.bind awake_ev (Ev.const rfl)) (fun k => ?_)
      rw [comfitlaw02_LotsTaken.j0, if_pos rfl, hn]
      simp only [Option.bind_some, if_true]
    refine Ev.bind (Taken_no hno) (Ev.bind (Looks_no hno) (Ev.bind (ref_valid_ev l0 l1) ?_))
    cases ho : okP l0 l1 with
    | false => exact Ev.ifNeg (by decide) hj
    | true =>
      refine Ev.ifPos rfl ?_
      rw [Is_ok, decide_eq_false (fun hc => h ⟨ho, hc⟩)]
      exact hj
end Go.Proofs.Ytdppnmfljfdhaaa.Pure
