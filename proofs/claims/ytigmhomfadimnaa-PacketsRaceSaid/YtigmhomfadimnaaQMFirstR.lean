/- Plain laws of packets: over which number the chances to be the last one go. -/
import Derived.Test.YtigmhomfadimnaaQMFirstP
set_option linter.unusedVariables false
set_option linter.unusedSimpArgs false
namespace Go.Proofs.Ytigmhomfadimnaa.Pure
open Go.RowKit Go.Proofs.Ytigmhomfadimnaa.X Go.Proofs.YtigmhomfadimnaaW.PrintWords Go.Proofs.YtigmhomfadimnaaW.PrintLast Go.Proofs.YtigmhomfadimnaaW.PrintMore
theorem rl_over' (D x : Nat) (hD : 0 < D) : ∀ L : List (Bool × Nat), (∀ c ∈ L, 0 < c.2 + x ∧ c.2 + x ∣ D) → ∃ N : Int, rl x L = Rat.divInt N D := by
  intro L
  induction L with
  | nil => intro _; exact ⟨0, by rw [rl, Rat.zero_divInt]⟩
  | cons c L ih =>
    obtain ⟨b, y⟩ := c
    intro hd
    obtain ⟨N, hN⟩ := ih (fun c hc => hd c (by simp [hc]))
    have hyd := hd (b, y) (by simp)
    have h := term_eq x (y + x) D hyd.1 hyd.2 hD (if b then 1 else -1)
    refine ⟨(if b then 1 else -1) * (x * (D / (y + x)) : Nat) + N, ?_⟩
    rw [rl, hN, ← divInt_sum, ← h]
    congr 1
    rw [Rat.divInt_eq_div, Rat.intCast_mul]
    have e1 : (((y + x : Nat) : Int) : Rat) = (x : Rat) + (y : Rat) := by
      rw [Rat.intCast_natCast]; push_cast; grind
    rw [e1, Rat.intCast_natCast]
    cases b
    · simp only [Bool.false_eq_true, if_false]
      show _ = ((-1 : Int) : Rat) * _ / _
      grind
    · simp only [if_true]
      show _ = ((1 : Int) : Rat) * _ / _
      grind
theorem last_over' (l : List Int) (h : okW l = true) (s : Int) : ∃ D : Nat, 0 < D ∧ D < 1152921504606846976 ∧ ∀ i : Nat, i < l.length → (s / 2 ^ i) % 2 = 1 → ∃ N : Int, lastR l s i = Rat.divInt N D := by
  have hk := (okW_iff l).1 h
  have hr := sub_range l s hk.2.2
  obtain ⟨D, hD, hD2, hdv, _⟩ := good2 (sub l s) hr.1 (by omega)
  refine ⟨D, hD, hD2, fun i hi hb => ?_⟩
  have hx := rd_ok l h i hi
  have hperm := sub_minus l s i hi hb
  obtain ⟨N, hN⟩ := rl_over' D (rd l (i : Int)).toNat hD (dscS (sub l (s - 2 ^ i))) (fun c hc => by
    have hy : c.2 ∈ sumsN (sub l (s - 2 ^ i)) := by rw [← dscS_snd]; exact List.mem_map.2 ⟨c, hc, rfl⟩
    have hy2 : c.2 + (rd l (i : Int)).toNat ∈ sumsN (sub l s) := by
      refine (sumsN_perm hperm).mem_iff.2 ?_
      rw [sumsN, List.mem_flatMap]
      exact ⟨_, hy, by simp⟩
    rcases hdv _ hy2 with h | h
    · omega
    · exact ⟨by omega, h⟩)
  exact ⟨N, by rw [← hN, rl_gg, gg_ee]; rfl⟩
end Go.Proofs.Ytigmhomfadimnaa.Pure
