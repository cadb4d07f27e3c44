/- PacketsDone: both the program and the reference add up the same parts, in another order. -/
import Derived.Test.YtigmhomfadimnaaXcomfitlaw04PacketsDone
import Derived.Test.YtigmhomfadimnaaMExact
set_option linter.unusedVariables false
set_option linter.unusedSimpArgs false
namespace Go.Proofs.Ytigmhomfadimnaa.Pure
open Go.RowKit Go.Proofs.Ytigmhomfadimnaa.X Go.Proofs.YtigmhomfadimnaaW.PrintWords Go.Proofs.YtigmhomfadimnaaW.PrintLast Go.Proofs.YtigmhomfadimnaaW.PrintMore

theorem PacketsDone : comfitlaw04_PacketsDone.Pure := by
  intro l s n _ hl _ _ _
  refine Ev.get ?_
  unfold comfitlaw04_PacketsDone.f
  rw [list_ok]
  simp only [Option.bind_some]
  have hlen : l.length < 4611686018427387904 := by omega
  by_cases hg : okS l s = true ∧ okN n = true
  · obtain ⟨hs, hN⟩ := hg
    obtain ⟨hn0, hn⟩ := (okN_iff n).1 hN
    obtain ⟨h, h0, h1⟩ := (okS_iff l s).1 hs
    rw [take_ok l h]
    refine Ev.bind (Done_ev l s n hs hn0 hn) (Ev.bind (Exact_ev l s n hs hn0 hn) (Ev.bind (Set_ev l s hlen) (Ev.ifPos hs (Ev.ifNeg (by omega) ?_))))
    rw [show decide (n > 8) = false from decide_eq_false (by omega)]
    obtain ⟨a, ha⟩ := refDone_ev l h s n hn0 hn h0 h1
    obtain ⟨b, hb⟩ := refExact_ev l s n hs hn0 hn
    obtain ⟨c, hc⟩ := awake_ev
    dsimp only at ha hb hc
    refine ⟨a + b + c + 1, fun k hk' => ?_⟩
    obtain ⟨m, rfl⟩ : ∃ m, k = m + 1 := ⟨k - 1, by omega⟩
    show comfitlaw04_PacketsDone.j0 (m + 1) l s n 0 0 false _ _ _ _ = _
    rw [comfitlaw04_PacketsDone.j0, if_neg (by simp), ha m (by omega)]
    simp only [Option.bind_some]
    rw [hb m (by omega), hc m (by omega)]
    simp
  · have hb : okS (l.take 8) s = false ∨ okN n = false := by
      rw [okS_take]
      cases h : okS l s with
      | false => exact .inl rfl
      | true => exact .inr (by simpa [h] using hg)
    have hj : Ev (fun k => comfitlaw04_PacketsDone.j0 k l s n 2 2 true 0 0 0 0) true := by
      refine Ev.succ (g := fun k => (comfitlaw04_awake.f k).bind fun t383 => (some t383)) (Ev.bind awake_ev (Ev.const rfl)) (fun k => ?_)
      simp [comfitlaw04_PacketsDone.j0, comfitlaw04_none.f]
    refine Ev.bind (Done_bad _ s n hb) (Ev.bind (Exact_bad _ s n hb) (Ev.bind (Set_ev l s hlen) ?_))
    cases h : okS l s with
    | false => exact Ev.ifNeg (by simp) hj
    | true =>
      refine Ev.ifPos rfl ?_
      have hN : ¬ (0 ≤ n ∧ n ≤ 8) := by
        intro h'
        have := (okN_iff n).2 h'
        simp [h, this] at hg
      by_cases h0 : n < 0
      · exact Ev.ifPos h0 hj
      · refine Ev.ifNeg h0 ?_
        rw [show decide (n > 8) = true from decide_eq_true (by omega)]
        exact hj

end Go.Proofs.Ytigmhomfadimnaa.Pure
