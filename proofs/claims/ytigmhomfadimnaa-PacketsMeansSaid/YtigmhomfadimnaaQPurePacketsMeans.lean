/- The plain law of PacketsMeans: Mean and Last answer as the reference. No conditions but the sizes that the arguments have. -/
import Derived.Test.YtigmhomfadimnaaQMNextL
import Derived.Test.YtigmhomfadimnaaQMNextM
import Derived.Test.YtigmhomfadimnaaQXcomfitlaw04PacketsMeans
set_option linter.unusedVariables false
set_option linter.unusedSimpArgs false
namespace Go.Proofs.Ytigmhomfadimnaa.Pure
open Go.RowKit Go.Proofs.Ytigmhomfadimnaa.X Go.Proofs.YtigmhomfadimnaaW.PrintWords Go.Proofs.YtigmhomfadimnaaW.PrintLast Go.Proofs.YtigmhomfadimnaaW.PrintMore
def okK (l : List Int) (s q : Int) : Bool := decide (0 ≤ q) && decide (q < (l.length : Int)) && decide (Go.bits .and .i64 (shr .i64 s q) 1 = 1)
theorem Last_no (l : List Int) (s q : Int) (h : okS l s = false ∨ okK l s q = false) : Ev (fun k => packets_Last.f k l s q) (0, 0, 2) := by
  unfold packets_Last.f
  refine Ev.bind (isSet_ev l s) ?_
  cases hS : okS l s with
  | false => exact Ev.ifNeg (by decide) (Ev.const rfl)
  | true =>
    have hK : okK l s q = false := by
      rcases h with e | e
      · rw [hS] at e; cases e
      · exact e
    obtain ⟨h, h0, h1⟩ := (okS_iff l s).1 hS
    have hk := (okW_iff l).1 h
    have hp := pow_le l.length hk.2.1
    refine Ev.ifPos rfl ?_
    by_cases c1 : q < 0
    · exact Ev.ifPos c1 (Ev.const rfl)
    · by_cases c2 : q ≥ (l.length : Int)
      · exact Ev.ifNeg c1 (Ev.ifPos c2 (Ev.const rfl))
      · have c4 : ¬ Go.bits .and .i64 (shr .i64 s q) 1 = 1 := fun e => by
          unfold okK at hK
          rw [decide_eq_true (show 0 ≤ q by omega), decide_eq_true (show q < (l.length : Int) by omega), decide_eq_true e] at hK
          cases hK
        refine Ev.ifNeg c1 (Ev.ifNeg c2 (Ev.ifPos ?_ (Ev.const rfl)))
        obtain ⟨i, rfl⟩ := Int.eq_ofNat_of_zero_le (show 0 ≤ q by omega)
        rw [bit_of s h0 (by omega) i (by have := hk.2.1; omega)] at c4 ⊢
        omega
theorem PacketsMeans : comfitlaw04_PacketsMeans.Pure := by
  intro l s q _ hl _ _ _
  refine Ev.get ?_
  unfold comfitlaw04_PacketsMeans.f
  rw [list_ok]
  simp only [Option.bind_some]
  have hlen : l.length < 4611686018427387904 := by omega
  cases hS : okS l s with
  | false =>
    have hS' : okS (l.take 8) s = false := by rw [okS_take]; exact hS
    refine Ev.bind (Mean_bad _ s hS') (Ev.bind (Last_no _ s q (.inl hS')) (Ev.bind ((Set_ev l s hlen).cast hS) (Ev.ifNeg (by decide) ?_)))
    refine Ev.bind (g := fun _ => some true) (Ev.const rfl) (Ev.ifPos rfl (Ev.bind (g := fun _ => some true) (Ev.const rfl) (Ev.ifPos rfl (Ev.ifPos rfl (Ev.ifPos rfl (Ev.bind awake_ev (Ev.const rfl)))))))
  | true =>
    obtain ⟨h, h0, h1⟩ := (okS_iff l s).1 hS
    have hk := (okW_iff l).1 h
    have hp := pow_le l.length hk.2.1
    rw [take_ok l h]
    have hM := Mean_ev l s hS
    have hRM := refMean_ev l h s h0 h1
    cases hK : okK l s q with
    | false =>
      refine Ev.bind hM (Ev.bind (Last_no l s q (.inr hK)) (Ev.bind ((Set_ev l s hlen).cast hS) (Ev.ifPos rfl (Ev.bind hRM (Ev.ifNeg (by simp) (Ev.ifPos rfl (Ev.bind awake_ev ?_)))))))
      have hj1 : Ev (fun k => comfitlaw04_PacketsMeans.j1 k l s q 2 true 0 0) true :=
        Ev.succ (g := fun _ => some true) (Ev.const rfl) (fun k => by simp [comfitlaw04_PacketsMeans.j1, comfitlaw04_none.f])
      refine Ev.succ (g := fun k => comfitlaw04_PacketsMeans.j1 k l s q 2 true 0 0) hj1 (fun k => ?_)
      have hne : ¬ (!true) = true := by decide
      by_cases c1 : q < 0
      · simp only [comfitlaw04_PacketsMeans.j0, if_neg hne, if_pos c1]
      · by_cases c2 : q ≥ (l.length : Int)
        · simp only [comfitlaw04_PacketsMeans.j0, if_neg hne, if_neg c1, if_pos c2]
        · have c3 : 0 ≤ q := by omega
          have c4 : ¬ Go.bits .and .i64 (shr .i64 s q) 1 = 1 := fun e => by
            unfold okK at hK
            rw [decide_eq_true c3, decide_eq_true (show q < (l.length : Int) by omega), decide_eq_true e] at hK
            cases hK
          have c5 : (Go.bits .and .i64 (shr .i64 s q) 1 == 0) = true := by
            obtain ⟨i, rfl⟩ := Int.eq_ofNat_of_zero_le c3
            rw [bit_of s h0 (by omega) i (by have := hk.2.1; omega)] at c4 ⊢
            rw [beq_iff_eq]
            omega
          simp only [comfitlaw04_PacketsMeans.j0, if_neg hne, if_neg c1, if_neg c2, if_pos c3, c5]
    | true =>
      unfold okK at hK
      simp only [Bool.and_eq_true, decide_eq_true_eq] at hK
      obtain ⟨⟨c3, c2⟩, hbit⟩ := hK
      obtain ⟨i, rfl⟩ := Int.eq_ofNat_of_zero_le c3
      have hi : i < l.length := by omega
      have hb : (s / 2 ^ i) % 2 = 1 := by rw [← bit_of s h0 (by omega) i (by have := hk.2.1; omega)]; exact hbit
      have hL := Last_ev l s hS i hi hb
      have hRL := refLast_ev l h s.toNat s rfl h0 h1 i hi hb
      refine Ev.bind hM (Ev.bind hL (Ev.bind ((Set_ev l s hlen).cast hS) (Ev.ifPos rfl (Ev.bind hRM (Ev.ifNeg (by simp) (Ev.ifPos rfl (Ev.bind awake_ev ?_)))))))
      have hj1 : Ev (fun k => comfitlaw04_PacketsMeans.j1 k l s (i : Int) 0 false (fr (lastR l s i)).1 (fr (lastR l s i)).2) true := by
        refine Ev.succ (g := fun k => (comfitref04_Last.f k l s (i : Int)).bind fun bt314 => (if ((fr (lastR l s i)).1 == bt314.1 && ((fr (lastR l s i)).2 == bt314.2)) = true then (some ((0 : Int) == 0)) else (some false))) ?_ (fun k => ?_)
        · exact Ev.bind hRL (Ev.ifPos (by simp) (Ev.const rfl))
        · rw [comfitlaw04_PacketsMeans.j1, if_neg (by decide)]
      refine Ev.succ (g := fun k => _) hj1 (fun k => ?_)
      have hne : ¬ (!true) = true := by decide
      have c1 : ¬ (i : Int) < 0 := by omega
      have c4 : ¬ (i : Int) ≥ (l.length : Int) := by omega
      have c5 : (Go.bits .and .i64 (shr .i64 s (i : Int)) 1 == 0) = false := by rw [hbit]; rfl
      simp only [comfitlaw04_PacketsMeans.j0, if_neg hne, if_neg c1, if_neg c4, if_pos c3, c5]
end Go.Proofs.Ytigmhomfadimnaa.Pure
