/- PacketsEnough: Enough returns the least number of packets that are enough, or the documented error: for all weights, sets and fractions, no conditions. -/
import Derived.Test.YtigmhomfadimnaaQXcomfitlaw04PacketsEnough
import Derived.Test.YtigmhomfadimnaaQMExact
import Derived.Test.YtigmhomfadimnaaQPurePacketsGrow
set_option linter.unusedVariables false
set_option linter.unusedSimpArgs false
namespace Go.Proofs.Ytigmhomfadimnaa.Pure
open Go.RowKit Go.Proofs.Ytigmhomfadimnaa.X Go.Proofs.YtigmhomfadimnaaW.PrintWords Go.Proofs.YtigmhomfadimnaaW.PrintLast Go.Proofs.YtigmhomfadimnaaW.PrintMore

/-- A chance with a denominator of at most 100, in lowest terms. -/
def okF (a b : Int) : Prop := 1 ≤ b ∧ b ≤ 100 ∧ 0 ≤ a ∧ a ≤ b ∧ Int.gcd a b = 1
instance (a b : Int) : Decidable (okF a b) := by unfold okF; infer_instance
theorem fr_low (a b : Int) (hb : 1 ≤ b) (hg : Int.gcd a b = 1) : fr (Rat.divInt a b) = (a, b) := by
  rw [fr_divInt a b (by omega), hg]
  simp
theorem Chance_ev (a b : Int) : Ev (fun k => comfitref04_Chance.f k a b) (decide (okF a b)) := by
  unfold comfitref04_Chance.f
  by_cases h1 : b ≥ 1
  · refine Ev.ifPos h1 ?_
    by_cases h2 : b ≤ 100
    · refine Ev.ifPos h2 ?_
      by_cases h3 : a ≥ 0
      · refine Ev.ifPos h3 ?_
        by_cases h4 : a ≤ b
        · refine Ev.ifPos h4 ?_
          refine Ev.bind (ref_frac_ev a b (by omega) (by omega) (by omega) (by omega)) (Ev.const ?_)
          by_cases hg : Int.gcd a b = 1
          · rw [fr_low a b h1 hg, decide_eq_true (p := okF a b) ⟨h1, h2, h3, h4, hg⟩]
            simp
          · rw [decide_eq_false (p := okF a b) (fun h => hg h.2.2.2.2)]
            rw [fr_divInt a b (by omega)]
            dsimp only
            congr 1
            rw [Bool.and_eq_false_iff]
            refine Or.inr (beq_eq_false_iff_ne.mpr fun he => hg ?_)
            obtain ⟨q, hq⟩ : ((Int.gcd a b : Int)) ∣ b := Int.gcd_dvd_right ..
            have hgp : (0 : Int) < (Int.gcd a b : Int) := by have := gcd_ne a b (by omega); omega
            generalize hgg : (Int.gcd a b : Int) = g at *
            rw [hq] at he
            rw [Int.mul_tdiv_cancel_left _ (by omega)] at he
            have hq0 : 0 < q := by
              rcases Int.lt_or_le 0 q with h | h
              · exact h
              · have := Int.mul_nonpos_of_nonneg_of_nonpos (show 0 ≤ g by omega) h
                omega
            have : g = 1 := by
              have h5 : (g - 1) * q = 0 := by rw [Int.sub_mul]; omega
              rcases Int.mul_eq_zero.1 h5 with h | h <;> omega
            omega
        · exact (Ev.ifNeg h4 (Ev.const rfl)).cast (decide_eq_false (p := okF a b) (fun h => h4 h.2.2.2.1)).symm
      · exact (Ev.ifNeg h3 (Ev.const rfl)).cast (decide_eq_false (p := okF a b) (fun h => h3 h.2.2.1)).symm
    · exact (Ev.ifNeg h2 (Ev.const rfl)).cast (decide_eq_false (p := okF a b) (fun h => h2 h.2.1)).symm
  · exact (Ev.ifNeg h1 (Ev.const rfl)).cast (decide_eq_false (p := okF a b) (fun h => h1 h.1)).symm
section
variable (l : List Int) (s a b : Int)
/-- Are n packets enough? -/
def enB (n : Nat) : Bool := decide (a * tot l ^ n ≤ dn l s n * b)
/-- The first number of packets, from n on, that is enough. -/
def enF : Nat → Nat → Int × Int
  | 0, _ => (0, 4)
  | d + 1, n => if enB l s a b n = true then ((n : Int), 0) else enF d (n + 1)
theorem en_step (h : okW l = true) (h0 : 0 ≤ s) (h1 : s < 2 ^ l.length) (hf : okF a b) (n : Nat) (hn : n ≤ 8) :
    ∃ q : Int × Int, Ev (fun k => packets_plus.f k (fr (Rat.divInt (dn l s n) (tot l ^ n))).1 (fr (Rat.divInt (dn l s n) (tot l ^ n))).2 (wrap64 (-a)) b) q ∧ (q.1 ≥ 0 ↔ enB l s a b n = true) ∧
      Ev (fun k => comfitref04_Less.f k (fr (Rat.divInt (dn l s n) (tot l ^ n))).1 (fr (Rat.divInt (dn l s n) (tot l ^ n))).2 a b) (!enB l s a b n) := by
  obtain ⟨f1, f2, f3, f4, f5⟩ := hf
  have ht := tot_bound l h
  have hp := pow_bound (tot l) (by omega) (by omega) n hn
  have hp1 : 1 ≤ tot l ^ n := by have : 0 < tot l ^ n := Int.pow_pos (show 0 < tot l by omega); omega
  have hd := dn_facts l h s n h0 h1
  have hD : 0 < tot l ^ n * b := Int.mul_pos (by omega) (by omega)
  have hDb : tot l ^ n * b ≤ 72301961339136 * 100 := Int.le_trans (Int.mul_le_mul_of_nonneg_right hp.2 (by omega)) (Int.mul_le_mul_of_nonneg_left f2 (by omega))
  have hdb : dn l s n * b ≤ tot l ^ n * b := Int.mul_le_mul_of_nonneg_right hd.2.1 (by omega)
  have hdb0 : 0 ≤ dn l s n * b := Int.mul_nonneg hd.1 (by omega)
  have haD : a * tot l ^ n ≤ tot l ^ n * b := by rw [Int.mul_comm (tot l ^ n)]; exact Int.mul_le_mul_of_nonneg_right f4 (by omega)
  have haD0 : 0 ≤ a * tot l ^ n := Int.mul_nonneg f3 (by omega)
  have e1 : Rat.divInt (dn l s n * b) (tot l ^ n * b) = Rat.divInt (dn l s n) (tot l ^ n) := divInt_cancel _ _ b (by omega) (by omega)
  have e2 : Rat.divInt (-a * tot l ^ n) (tot l ^ n * b) = Rat.divInt (-a) b := by rw [Int.mul_comm (tot l ^ n) b]; exact divInt_cancel _ _ _ (by omega) (by omega)
  have hgn : Int.gcd (-a) b = 1 := by rw [Int.neg_gcd]; exact f5
  have e3 : fr (Rat.divInt (-a) b) = (-a, b) := fr_low (-a) b f1 hgn
  have hw : wrap64 (-a) = -a := w_in (by omega) (by omega)
  have hna : -a * tot l ^ n = -(a * tot l ^ n) := Int.neg_mul ..
  refine ⟨fr (Rat.divInt (dn l s n * b + -a * tot l ^ n) (tot l ^ n * b)), ?_, ?_, ?_⟩
  · have := packets_plus_ev (dn l s n * b) (-a * tot l ^ n) (tot l ^ n * b) hD (by omega) (by omega) (by omega)
    rw [e1, e2, e3] at this
    rw [hw]
    exact this
  · obtain ⟨c, hc, q1, q2⟩ := divInt_parts (dn l s n * b + -a * tot l ^ n) (tot l ^ n * b) hD
    unfold fr enB
    dsimp only
    rw [decide_eq_true_eq]
    generalize (Rat.divInt (dn l s n * b + -a * tot l ^ n) (tot l ^ n * b)).num = p at *
    constructor
    · intro h
      have := Int.mul_nonneg (show 0 ≤ p by omega) (show 0 ≤ c by omega)
      omega
    · intro h
      have : 0 ≤ p * c := by omega
      exact Int.nonneg_of_mul_nonneg_left this hc
  · have hl := Less_ev (dn l s n) a (tot l ^ n) b (by omega) (by omega) hd.1 f3 (by omega) (by omega) (by omega) (by omega)
    rw [fr_low a b f1 f5] at hl
    refine hl.cast ?_
    unfold enB
    by_cases hh : a * tot l ^ n ≤ dn l s n * b
    · rw [decide_eq_true hh, decide_eq_false (by omega)]; rfl
    · rw [decide_eq_false hh, decide_eq_true (by omega)]; rfl
theorem en_go (hs : okS l s = true) (hf : okF a b) : ∀ d n : Nat, n + d = 9 → Ev (fun k => packets_Enough.l0 k l s n a b) (enF l s a b d n) ∧ Ev (fun k => comfitref04_Enough.l0 k l s n a b) (enF l s a b d n) := by
  obtain ⟨h, h0, h1⟩ := (okS_iff l s).1 hs
  intro d
  induction d with
  | zero =>
    intro n hn
    exact ⟨Ev.succ (g := fun _ => some (0, 4)) (Ev.const rfl) (fun k => by rw [packets_Enough.l0, if_neg (by omega)]), Ev.succ (g := fun _ => some (0, 4)) (Ev.const rfl) (fun k => by rw [comfitref04_Enough.l0, if_neg (by omega)])⟩
  | succ d ih =>
    intro n hn
    obtain ⟨i1, i2⟩ := ih (n + 1) (by omega)
    obtain ⟨q, p1, p2, p3⟩ := en_step l s a b h h0 h1 hf n (by omega)
    have hw : wrap64 ((n : Int) + 1) = ((n + 1 : Nat) : Int) := by rw [w_in (by omega) (by omega)]; omega
    have dE := Done_ev l s n hs (by omega) (by omega)
    have dR := refDone_ev l h s n (by omega) (by omega) h0 h1
    rw [Int.toNat_natCast] at dE dR
    constructor
    · refine Ev.succ (g := fun k => (packets_Done.f k l s n).bind fun bt549 => ((packets_plus.f k bt549.1 bt549.2.1 (wrap64 (-a)) b).bind fun bt553 => (if bt553.1 ≥ 0 then (some ((n : Int), 0)) else (packets_Enough.l0 k l s (wrap64 ((n : Int) + 1)) a b)))) ?_ (fun k => by rw [packets_Enough.l0, if_pos (by omega)])
      refine Ev.bind dE (Ev.bind p1 ?_)
      unfold enF
      by_cases hq : q.1 ≥ 0
      · rw [if_pos (p2.1 hq)]
        exact Ev.ifPos hq (Ev.const rfl)
      · rw [if_neg (fun hh => hq (p2.2 hh)), hw]
        exact Ev.ifNeg hq i1
    · refine Ev.succ (g := fun k => (comfitref04_Done.f k l s n).bind fun bt559 => ((comfitref04_Less.f k bt559.1 bt559.2 a b).bind fun t561 => (if t561 = true then (comfitref04_Enough.l0 k l s (wrap64 ((n : Int) + 1)) a b) else (some ((n : Int), 0))))) ?_ (fun k => by rw [comfitref04_Enough.l0, if_pos (by omega)])
      refine Ev.bind dR (Ev.bind p3 ?_)
      unfold enF
      cases he : enB l s a b n with
      | true =>
        rw [if_pos rfl]
        exact Ev.ifNeg (by decide) (Ev.const rfl)
      | false =>
        rw [if_neg (by decide), hw]
        exact Ev.ifPos (by decide) i2
end
theorem Enough_ev (l : List Int) (s a b : Int) (hs : okS l s = true) (hf : okF a b) : Ev (fun k => packets_Enough.f k l s a b) (enF l s a b 9 0) := by
  obtain ⟨h, h0, h1⟩ := (okS_iff l s).1 hs
  have hf' := hf
  obtain ⟨f1, f2, f3, f4, f5⟩ := hf
  unfold packets_Enough.f
  refine Ev.bind (isSet_ev l s) ?_
  rw [hs]
  refine Ev.ifPos rfl (Ev.ifNeg (by omega) (Ev.ifNeg (by omega) (Ev.ifNeg (by omega) (Ev.ifNeg (by omega) ?_))))
  unfold packets_gcd.f
  refine Ev.bind (packets_gcd_ev _ a b (Nat.le_refl _) (by omega) (by omega)) ?_
  rw [f5]
  refine Ev.succ (g := fun k => packets_Enough.l0 k l s 0 a b) (en_go l s a b hs hf' 9 0 rfl).1 (fun k => by rw [packets_Enough.j0, if_neg (by decide)])
theorem Enough_bad (l : List Int) (s a b : Int) (h : okS l s = false ∨ ¬ okF a b) : Ev (fun k => packets_Enough.f k l s a b) (0, 2) := by
  have hj : Ev (fun k => packets_Enough.j0 k l s true a b) (0, 2) := Ev.succ (g := fun _ => some (0, 2)) (Ev.const rfl) (fun k => by rw [packets_Enough.j0, if_pos rfl])
  unfold packets_Enough.f
  refine Ev.bind (isSet_ev l s) ?_
  cases hs : okS l s with
  | false => exact Ev.ifNeg (by decide) hj
  | true =>
    have hf : ¬ okF a b := by
      rcases h with h | h
      · rw [hs] at h; simp at h
      · exact h
    refine Ev.ifPos rfl ?_
    by_cases h1 : b < 1
    · exact Ev.ifPos h1 hj
    refine Ev.ifNeg h1 ?_
    by_cases h2 : b > 100
    · exact Ev.ifPos h2 hj
    refine Ev.ifNeg h2 ?_
    by_cases h3 : a < 0
    · exact Ev.ifPos h3 hj
    refine Ev.ifNeg h3 ?_
    by_cases h4 : a > b
    · exact Ev.ifPos h4 hj
    refine Ev.ifNeg h4 ?_
    unfold packets_gcd.f
    refine Ev.bind (packets_gcd_ev _ a b (Nat.le_refl _) (by omega) (by omega)) ?_
    have hg : ¬ Int.gcd a b = 1 := fun hg => hf ⟨by omega, by omega, by omega, by omega, hg⟩
    have : (((Int.gcd a b : Nat) : Int) != 1) = true := bne_iff_ne.mpr (by omega)
    rw [this]
    exact hj
theorem PacketsEnough (l : List Int) (s a b : Int) (_ : l.length ≤ maxLen) (hl : l.length * 8 ≤ 140737488351232) (_ : ∀ x ∈ l, (Lit.int .i64 x).wf = true) (_ : (Lit.int .i64 s).wf = true) (_ : (Lit.int .i64 a).wf = true) (_ : (Lit.int .i64 b).wf = true) : ∃ k, comfitlaw04_PacketsEnough.f k l s a b = some true := by
  refine Ev.get (g := fun k => comfitlaw04_PacketsEnough.f k l s a b) ?_
  unfold comfitlaw04_PacketsEnough.f
  rw [list_ok]
  simp only [Option.bind_some]
  have hlen : l.length < 4611686018427387904 := by omega
  by_cases hg : okS l s = true ∧ okF a b
  · obtain ⟨hs, hf⟩ := hg
    obtain ⟨h, h0, h1⟩ := (okS_iff l s).1 hs
    rw [take_ok l h]
    refine Ev.bind (Enough_ev l s a b hs hf) (Ev.bind (Set_ev l s hlen) (Ev.ifPos hs (Ev.bind (Chance_ev a b) ?_)))
    rw [decide_eq_true hf]
    refine Ev.succ (g := fun k => (comfitref04_Enough.f k l s a b).bind fun bt571 => (if (enF l s a b 9 0).1 = bt571.1 then (if (enF l s a b 9 0).2 = bt571.2 then ((comfitlaw04_awake.f k).bind fun t573 => (some t573)) else (some false)) else (some false))) ?_ (fun k => by rw [comfitlaw04_PacketsEnough.j0, if_neg (by decide)])
    exact Ev.bind (en_go l s a b hs hf 9 0 rfl).2 (Ev.ifPos rfl (Ev.ifPos rfl (Ev.bind awake_ev (Ev.const rfl))))
  · have hb : okS (l.take 8) s = false ∨ ¬ okF a b := by
      rw [okS_take]
      cases h : okS l s with
      | false => exact .inl rfl
      | true => exact .inr (fun hf => hg ⟨h, hf⟩)
    have hj : Ev (fun k => comfitlaw04_PacketsEnough.j0 k l s 0 2 true a b) true :=
      Ev.succ (g := fun k => (comfitlaw04_awake.f k).bind fun t570 => (some t570)) (Ev.bind awake_ev (Ev.const rfl)) (fun k => by rw [comfitlaw04_PacketsEnough.j0, if_pos rfl, if_pos rfl, if_pos rfl])
    refine Ev.bind (Enough_bad _ s a b hb) (Ev.bind (Set_ev l s hlen) ?_)
    cases h : okS l s with
    | false => exact Ev.ifNeg (by simp) hj
    | true =>
      refine Ev.ifPos rfl (Ev.bind (Chance_ev a b) ?_)
      rw [decide_eq_false (fun hf => hg ⟨h, hf⟩)]
      exact hj
end Go.Proofs.Ytigmhomfadimnaa.Pure
