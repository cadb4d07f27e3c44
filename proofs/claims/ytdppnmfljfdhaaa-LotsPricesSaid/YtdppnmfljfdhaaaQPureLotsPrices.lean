/- Price returns the average price of a plan of at most 6 items, or the documented error: for every plan, chance and cost, no conditions. -/
import Derived.Test.YtdppnmfljfdhaaaQMPrice
import Derived.Test.YtdppnmfljfdhaaaQXcomfitlaw02LotsPrices
set_option linter.unusedVariables false
set_option linter.unusedSimpArgs false
namespace Go.Proofs.Ytdppnmfljfdhaaa.Pure
open Go.RowKit Go.Proofs.Ytdppnmfljfdhaaa.X Go.Proofs.YtdppnmfljfdhaaaW.PrintWords Go.Proofs.YtdppnmfljfdhaaaW.PrintLast Go.Proofs.YtdppnmfljfdhaaaW.PrintMore

theorem LotsPrices (l0 l1 : List Int) (gy go by_ bo wy wo tk lv : Int) (_ : l0.length ≤ maxLen) (_ : ∀ x ∈ l0, (Lit.int .i64 x).wf = true) (_ : l1.length ≤ maxLen) (_ : ∀ x ∈ l1, (Lit.int .i64 x).wf = true) (_ : (Lit.int .i64 gy).wf = true) (_ : (Lit.int .i64 go).wf = true) (_ : (Lit.int .i64 by_).wf = true) (_ : (Lit.int .i64 bo).wf = true) (_ : (Lit.int .i64 wy).wf = true) (_ : (Lit.int .i64 wo).wf = true) (_ : (Lit.int .i64 tk).wf = true) (_ : (Lit.int .i64 lv).wf = true) : ∃ k, comfitlaw02_LotsPrices.f k l0 l1 gy go by_ bo wy wo tk lv = some true := by
  refine Ev.get (g := fun k => comfitlaw02_LotsPrices.f k l0 l1 gy go by_ bo wy wo tk lv) ?_
  unfold comfitlaw02_LotsPrices.f comfitlaw02_chance.f
  rw [Of_ok]
  simp only [Option.bind_some]
  by_cases h : okP l0 l1 = true ∧ l0.length ≤ 6 ∧ okC gy go ∧ okC by_ bo ∧ okC wy wo ∧ okW tk lv
  · obtain ⟨h, hn, hg, hb, hw, hc⟩ := h
    have ok := (okP_iff l0 l1).1 h
    obtain ⟨e0, e1⟩ := take_ok ok
    rw [e0, e1]
    refine Ev.bind (Price_ev ok hn hg hb hw hc) (Ev.bind (ref_valid_ev l0 l1) ?_)
    rw [h]
    refine Ev.ifPos rfl (Ev.ifNeg (by omega) ?_)
    rw [Is_ok, Is_ok, Is_ok, Cost_ok, decide_eq_true hg, decide_eq_true hb, decide_eq_true hw, decide_eq_true hc]
    simp only [Option.bind_some, if_true, Bool.not_true]
    refine Ev.succ (g := fun k => (comfitref02_Price.f k l0 l1 gy go by_ bo wy wo tk lv).bind fun bt575 => (if ((priceA l0 l1 gy go by_ bo wy wo tk lv).1 == bt575.1 && ((priceA l0 l1 gy go by_ bo wy wo tk lv).2 == bt575.2)) = true then (if (0 : Int) = 0 then ((comfitlaw02_awake.f k).bind fun t577 => (some t577)) else (some false)) else (some false))) ?_ (fun k => by rw [comfitlaw02_LotsPrices.j0, if_neg (by decide)])
    exact Ev.bind (ref_Price_ev ok hn hg hb hw hc) (Ev.ifPos (by simp) (Ev.ifPos rfl (Ev.bind awake_ev (Ev.const rfl))))
  · have hno : ¬ (okP (l0.take 15) (l1.take 15) = true ∧ (l0.take 15).length ≤ 6 ∧ okC gy go ∧ okC by_ bo ∧ okC wy wo ∧ okW tk lv) := by
      rintro ⟨a, b, c⟩
      rw [okP_take] at a
      rw [(take_ok ((okP_iff l0 l1).1 a)).1] at b
      exact h ⟨a, b, c⟩
    have hn : comfitlaw02_none.f 0 0 = some true := by decide +kernel
    have hj : Ev (fun k => comfitlaw02_LotsPrices.j0 k tk lv 2 true l0 l1 gy go by_ bo wy wo 0 0) true := by
      refine Ev.succ (g := fun k => (comfitlaw02_awake.f k).bind fun t222 => (some t222)) (Ev.bind awake_ev (Ev.const rfl)) (fun k => ?_)
      rw [comfitlaw02_LotsPrices.j0, if_pos rfl, hn]
      simp only [Option.bind_some, if_true]
    refine Ev.bind (Price_no hno) (Ev.bind (ref_valid_ev l0 l1) ?_)
    cases ho : okP l0 l1 with
    | false => exact Ev.ifNeg (by decide) hj
    | true =>
      refine Ev.ifPos rfl ?_
      by_cases hl : (l0.length : Int) > 6
      · exact Ev.ifPos hl hj
      · refine Ev.ifNeg hl ?_
        rw [Is_ok, Is_ok, Is_ok, Cost_ok]
        simp only [Option.bind_some]
        by_cases hg : okC gy go
        · rw [decide_eq_true hg]
          refine Ev.ifPos rfl ?_
          by_cases hb : okC by_ bo
          · rw [decide_eq_true hb]
            refine Ev.ifPos rfl ?_
            by_cases hw : okC wy wo
            · rw [decide_eq_true hw]
              refine Ev.ifPos rfl ?_
              rw [decide_eq_false (p := okW tk lv) (fun hc => h ⟨ho, by omega, hg, hb, hw, hc⟩)]
              exact hj
            · rw [decide_eq_false hw]; exact Ev.ifNeg (by decide) hj
          · rw [decide_eq_false hb]; exact Ev.ifNeg (by decide) hj
        · rw [decide_eq_false hg]; exact Ev.ifNeg (by decide) hj
end Go.Proofs.Ytdppnmfljfdhaaa.Pure
