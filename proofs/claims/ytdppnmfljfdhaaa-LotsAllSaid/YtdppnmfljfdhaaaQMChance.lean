/- Plain laws: what Taken and Looks answer, the program's and the reference's. -/
import Derived.Test.YtdppnmfljfdhaaaQMTaken
import Derived.Test.YtdppnmfljfdhaaaQX0
import Derived.Test.YtdppnmfljfdhaaaQXR
import Derived.Test.YtdppnmfljfdhaaaQXL
set_option linter.unusedVariables false
set_option linter.unusedSimpArgs false
namespace Go.Proofs.Ytdppnmfljfdhaaa.Pure
open Go.RowKit Go.Proofs.Ytdppnmfljfdhaaa.X Go.Proofs.YtdppnmfljfdhaaaW.PrintWords Go.Proofs.YtdppnmfljfdhaaaW.PrintLast Go.Proofs.YtdppnmfljfdhaaaW.PrintMore

/-! ### Chances -/
def okC (y o : Int) : Prop := 1 ≤ o ∧ o ≤ 12 ∧ 0 ≤ y ∧ y ≤ o
instance (y o : Int) : Decidable (okC y o) := by unfold okC; infer_instance
theorem chance_ok (y o : Int) : lots_Chance_valid.f y o = some (decide (okC y o)) := by
  unfold lots_Chance_valid.f okC
  repeat' split
  all_goals simp only [Option.some.injEq]
  all_goals first
    | (symm; apply decide_eq_false; omega)
    | (apply decide_eq_decide.2; omega)
theorem Is_ok (y o : Int) : comfitref02_Is.f y o = some (decide (okC y o)) := by
  unfold comfitref02_Is.f okC
  repeat' split
  all_goals simp only [Option.some.injEq]
  all_goals first
    | (symm; apply decide_eq_false; omega)
    | (apply decide_eq_decide.2; omega)
theorem pow_pos' (o : Int) (h : 1 ≤ o) : ∀ n : Nat, 1 ≤ o ^ n
  | 0 => by simp
  | n + 1 => by
    rw [Int.pow_succ]
    have h1 := pow_pos' o h n
    have := Int.mul_le_mul_of_nonneg_left (show 1 ≤ o by omega) (show 0 ≤ o ^ n by omega)
    omega
theorem pow12 (n : Nat) (hn : n ≤ 12) : (12 : Int) ^ n ≤ 8916100448256 := by
  have h : (12 : Nat) ^ n ≤ 12 ^ 12 := Nat.pow_le_pow_right (by omega) hn
  have e : ((12 ^ n : Nat) : Int) = (12 : Int) ^ n := by push_cast; rfl
  rw [← e]
  have : (12 : Nat) ^ 12 = 8916100448256 := by decide
  omega
theorem pow_le12 (o : Int) (h0 : 0 ≤ o) (h : o ≤ 12) : ∀ n : Nat, o ^ n ≤ 12 ^ n
  | 0 => by simp
  | n + 1 => by
    rw [Int.pow_succ, Int.pow_succ]
    have h1 := pow_le12 o h0 h n
    have h2 := pow_nonneg' o h0 n
    exact Int.le_trans (Int.mul_le_mul_of_nonneg_right h1 h0) (Int.mul_le_mul_of_nonneg_left h (by have := pow_pos' 12 (by decide) n; omega))
theorem pow_bound (o : Int) (h1 : 1 ≤ o) (h : o ≤ 12) (n : Nat) (hn : n ≤ 12) : 1 ≤ o ^ n ∧ o ^ n ≤ 8916100448256 :=
  ⟨pow_pos' o h1 n, Int.le_trans (pow_le12 o (by omega) h n) (pow12 n hn)⟩

section
variable {l0 l1 : List Int} {y o : Int}
/-! ### The reference -/
theorem looks_bound (h : Ok l0 l1) (hc : okC y o) : 1 ≤ sLooks l0 l1 y o ∧ sLooks l0 l1 y o ≤ 106993205379072 := by
  have hm := h.most
  obtain ⟨h1, h2, h3, h4⟩ := hc
  have hb := sLooks_bound h h3 h4
  have hp := pow_bound o h1 h2 l0.length hm
  have : (l0.length : Int) * o ^ l0.length ≤ 12 * 8916100448256 := Int.le_trans (Int.mul_le_mul_of_nonneg_right (show (l0.length : Int) ≤ 12 by omega) (by omega)) (by omega)
  omega
/-! ### The program -/
def Good (n : Nat) (e : S81) : Prop := ∃ k b : Nat, e.f0 = k ∧ e.f1 = b ∧ b ≤ k ∧ k ≤ n
theorem enK_good (l0 l1 : List Int) (k n : Nat) (hk : k < n) : ∀ m : Nat, m ≤ k + 2 → ∀ e ∈ enK l0 l1 k m, Good n e
  | 0, _, e, he => by simp [enK] at he
  | m + 1, hm, e, he => by
    rw [enK_succ] at he
    split at he
    · rcases List.mem_append.1 he with h | h
      · exact enK_good l0 l1 k n hk m (by omega) e h
      · obtain rfl := List.mem_singleton.1 h
        exact ⟨k + 1, m, by simp, rfl, by omega, by omega⟩
    · exact enK_good l0 l1 k n hk m (by omega) e he
theorem ends_good (l0 l1 : List Int) (n : Nat) : ∀ k : Nat, k ≤ n → ∀ e ∈ ends l0 l1 k, Good n e
  | 0, _, e, he => by simp [ends] at he
  | k + 1, hk, e, he => by
    rcases List.mem_append.1 he with h | h
    · exact ends_good l0 l1 n k (by omega) e h
    · exact enK_good l0 l1 k n (by omega) (k + 2) (by omega) e h
theorem weight_ev (n : Nat) (hn : n ≤ 12) (hc : okC y o) (e : S81) (hg : Good n e) : Ev (fun r => lots_end_weight.f r e.f0 e.f1 e.f2 e.f3 y o n) (wrap64 (e.f3 * y ^ e.f1.toNat * (o - y) ^ (e.f0 - e.f1).toNat * o ^ (n - e.f0.toNat))) := by
  obtain ⟨k, b, e0, e1, hbk, hkn⟩ := hg
  obtain ⟨h1, h2, h3, h4⟩ := hc
  rw [e0, e1]
  have a1 : wrap64 (o - y) = o - y := w_in (by omega) (by omega)
  have a2 : wrap64 ((k : Int) - b) = ((k - b : Nat) : Int) := by rw [w_in (by omega) (by omega)]; omega
  have a3 : wrap64 ((n : Int) - k) = ((n - k : Nat) : Int) := by rw [w_in (by omega) (by omega)]; omega
  unfold lots_end_weight.f
  rw [a1, a2, a3]
  refine Ev.bind (lots_power_ev y b (by omega) (by omega)) (Ev.bind (lots_power_ev (o - y) _ (by omega) (by omega)) (Ev.bind (lots_power_ev o _ (by omega) (by omega)) (Ev.const ?_)))
  have key : ∀ a b c d : Int, wrap64 (wrap64 (wrap64 (a * wrap64 b) * wrap64 c) * wrap64 d) = wrap64 (a * b * c * d) := fun a b c d => by rw [w_mulr a b, w_mul (a * b) c, w_mul (a * b * c) d]
  rw [key, show ((b : Int)).toNat = b by omega, show (((k - b : Nat) : Int)).toNat = k - b by omega, show (((n - k : Nat) : Int)).toNat = n - k by omega, show ((k : Int) - b).toNat = k - b by omega, show ((k : Int)).toNat = k by omega]
theorem sum_go_ev (n : Nat) (hn : n ≤ 12) (hc : okC y o) (f : S81 → Int) : ∀ L : List S81, (∀ e ∈ L, Good n e) → ∀ s : Int, Ev (fun r => lots_sum.go r f y o n L (wrap64 s)) (wrap64 (s + wL y o n f L))
  | [], _, s => by simp only [lots_sum.go, wL, Int.add_zero]; exact Ev.const rfl
  | e :: L, hg, s => by
    have ih := sum_go_ev n hn hc f L (fun e' he' => hg e' (List.mem_cons_of_mem _ he')) (s + wE y o n f e)
    simp only [lots_sum.go]
    refine Ev.bind (weight_ev n hn hc e (hg e (List.mem_cons_self))) ?_
    have e1 : wrap64 (wrap64 s + wrap64 (wrap64 (e.f3 * y ^ e.f1.toNat * (o - y) ^ (e.f0 - e.f1).toNat * o ^ (n - e.f0.toNat)) * f e)) = wrap64 (s + wE y o n f e) := by
      rw [w_mull, w_add]
      rfl
    rw [e1]
    exact ih.cast (by rw [wL, Int.add_assoc])
theorem sum_ev (h : Ok l0 l1) (hc : okC y o) (f : S81 → Int) (S : Int) (hS : wL y o l0.length f (ends l0 l1 l0.length) = S) (h0 : -9223372036854775808 < S) (h1 : S < 9223372036854775808) : Ev (fun r => lots_sum.f r f l0 l1 y o) (fr (Rat.divInt S (o ^ l0.length))) := by
  have hm := h.most
  have hp := pow_bound o hc.1 hc.2.1 l0.length hm
  unfold lots_sum.f lots_Plan_ends.f
  rw [if_pos ⟨h.same, hm⟩]
  simp only [Option.bind_some]
  have hs := sum_go_ev l0.length hm hc f (ends l0 l1 l0.length) (ends_good l0 l1 _ _ (Nat.le_refl _)) 0
  rw [w_zero, Int.zero_add, hS, w_in (by omega) (by omega)] at hs
  refine Ev.bind hs (Ev.bind (lots_power_ev o l0.length (by omega) (by omega)) ?_)
  rw [show ((l0.length : Int)).toNat = l0.length by omega, w_in (n := o ^ l0.length) (by omega) (by omega)]
  exact lots_frac_ev _ _ (by omega) (by omega) (by omega) (by omega)
theorem Taken_ev (h : Ok l0 l1) (hc : okC y o) : Ev (fun r => lots_Taken.f r l0 l1 y o) ((fr (Rat.divInt (sTaken l0 l1 y o) (o ^ l0.length))).1, (fr (Rat.divInt (sTaken l0 l1 y o) (o ^ l0.length))).2, 0) := by
  have hb := sTaken_bound h hc.2.2.1 hc.2.2.2
  have hp := pow_bound o hc.1 hc.2.1 l0.length h.most
  unfold lots_Taken.f
  refine Ev.bind (valid_ev l0 l1) ?_
  rw [(okP_iff l0 l1).2 h, chance_ok, decide_eq_true hc]
  refine Ev.ifPos rfl ?_
  simp only [Option.bind_some, if_true]
  exact Ev.bind (sum_ev h hc ofTaken _ (wL_taken l0 l1 y o h.most) (by omega) (by omega)) (Ev.const rfl)
theorem Looks_ev (h : Ok l0 l1) (hc : okC y o) : Ev (fun r => lots_Looks.f r l0 l1 y o) ((fr (Rat.divInt (sLooks l0 l1 y o) (o ^ l0.length))).1, (fr (Rat.divInt (sLooks l0 l1 y o) (o ^ l0.length))).2, 0) := by
  have hb := looks_bound h hc
  unfold lots_Looks.f
  refine Ev.bind (valid_ev l0 l1) ?_
  rw [(okP_iff l0 l1).2 h, chance_ok, decide_eq_true hc]
  refine Ev.ifPos rfl ?_
  simp only [Option.bind_some, if_true]
  exact Ev.bind (sum_ev h hc ofLooks _ (wL_looks h y o) (by omega) (by omega)) (Ev.const rfl)
theorem Taken_no (h : okP l0 l1 = false ∨ ¬ okC y o) : Ev (fun r => lots_Taken.f r l0 l1 y o) (0, 0, 2) := by
  unfold lots_Taken.f
  refine Ev.bind (valid_ev l0 l1) ?_
  rw [chance_ok]
  cases ho : okP l0 l1 with
  | false => exact Ev.ifNeg (by decide) (Ev.const rfl)
  | true =>
    rw [decide_eq_false (h.resolve_left (by rw [ho]; decide))]
    exact Ev.ifPos rfl (Ev.const rfl)
theorem Looks_no (h : okP l0 l1 = false ∨ ¬ okC y o) : Ev (fun r => lots_Looks.f r l0 l1 y o) (0, 0, 2) := by
  unfold lots_Looks.f
  refine Ev.bind (valid_ev l0 l1) ?_
  rw [chance_ok]
  cases ho : okP l0 l1 with
  | false => exact Ev.ifNeg (by decide) (Ev.const rfl)
  | true =>
    rw [decide_eq_false (h.resolve_left (by rw [ho]; decide))]
    exact Ev.ifPos rfl (Ev.const rfl)
end
end Go.Proofs.Ytdppnmfljfdhaaa.Pure
