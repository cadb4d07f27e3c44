/- Plain laws of packets' statements: one number less than another, and differences that are held in bounds. -/
import Derived.Test.YtigmhomfadimnaaQMBase
import Derived.Test.YtigmhomfadimnaaQXL
import Derived.Test.YtigmhomfadimnaaQX0
import Derived.Test.YtigmhomfadimnaaQXP
import Derived.Test.YtigmhomfadimnaaQXV
import Derived.Test.YtigmhomfadimnaaQHDone
import Derived.Test.YtigmhomfadimnaaQXS
import Derived.Test.YtigmhomfadimnaaQXSL
set_option linter.unusedVariables false
set_option linter.unusedSimpArgs false
namespace Go.Proofs.Ytigmhomfadimnaa.Pure
open Go.RowKit Go.Proofs.Ytigmhomfadimnaa.X Go.Proofs.YtigmhomfadimnaaW.PrintWords Go.Proofs.YtigmhomfadimnaaW.PrintLast Go.Proofs.YtigmhomfadimnaaW.PrintMore

theorem less_go : ∀ (n : Nat) (a b c d : Int), 0 ≤ a → 0 < b → 0 ≤ c → 0 < d → a < 9223372036854775808 → c < 9223372036854775808 → b < 9223372036854775808 → d < 9223372036854775808 → b.natAbs + d.natAbs ≤ n → Ev (fun k => comfitref04_Less.l0 k a b c d) (decide (a * d < c * b)) := by
  intro n
  induction n with
  | zero => intro a b c d _ hb _ _ _ _ _ _ h; omega
  | succ n ih =>
    intro a b c d ha hb hc hd ha2 hc2 hb2 hd2 hn
    have e1 := Int.mul_tdiv_add_tmod a b
    have e2 := Int.mul_tdiv_add_tmod c d
    have p1 := Int.tmod_nonneg b ha
    have p2 := Int.tmod_nonneg d hc
    have q1 := Int.tmod_lt_of_pos a hb
    have q2 := Int.tmod_lt_of_pos c hd
    have w1 := tdiv_w a b (by omega) ha2
    have w2 := tdiv_w c d (by omega) hc2
    generalize hra : Int.tmod a b = ra at *
    generalize hrc : Int.tmod c d = rc at *
    generalize hta : Int.tdiv a b = ta at *
    generalize htc : Int.tdiv c d = tc at *
    by_cases ht : ta = tc
    · subst ht
      have hiff : a * d < c * b ↔ ra * d < rc * b := by
        rw [← e1, ← e2]
        have : (b * ta + ra) * d - (d * ta + rc) * b = ra * d - rc * b := by grind
        omega
      by_cases h1 : rc = 0
      · refine Ev.succ (g := fun _ => some false) (Ev.const ?_) (fun k => by rw [comfitref04_Less.l0, if_neg (by omega), if_neg (by omega), hta, htc, if_pos (by rw [w1]), hrc, if_pos h1])
        congr 1
        rw [eq_comm, decide_eq_false_iff_not, hiff, h1]
        have := Int.mul_nonneg p1 (Int.le_of_lt hd)
        omega
      · by_cases h2 : ra = 0
        · refine Ev.succ (g := fun _ => some true) (Ev.const ?_) (fun k => by rw [comfitref04_Less.l0, if_neg (by omega), if_neg (by omega), hta, htc, if_pos (by rw [w1]), hrc, hra, if_neg h1, if_pos h2])
          congr 1
          rw [eq_comm, decide_eq_true_eq, hiff, h2]
          have := Int.mul_pos (show 0 < rc by omega) hb
          omega
        · have hrec := ih d rc b ra (by omega) (by omega) (by omega) (by omega)
          refine Ev.succ ((hrec hd2 hb2 (by omega) (by omega) (by omega)).cast ?_) (fun k => by rw [comfitref04_Less.l0, if_neg (by omega), if_neg (by omega), hta, htc, if_pos (by rw [w1]), hrc, hra, if_neg h1, if_neg h2])
          rw [decide_eq_decide, hiff, Int.mul_comm d ra, Int.mul_comm b rc]
    · refine Ev.succ (g := fun _ => some (decide (ta < tc))) (Ev.const ?_) (fun k => by rw [comfitref04_Less.l0, if_neg (by omega), if_neg (by omega), hta, htc, if_neg (by rw [w1, w2]; exact ht), w1, w2])
      congr 1
      rw [decide_eq_decide, ← e1, ← e2]
      have hx : (b * ta + ra) * d - (d * tc + rc) * b = b * d * (ta - tc) + ra * d - rc * b := by grind
      have hbd := Int.mul_pos hb hd
      have m1 : ra * d < b * d := Int.mul_lt_mul_of_pos_right q1 hd
      have m2 : rc * b < d * b := Int.mul_lt_mul_of_pos_right q2 hb
      have m3 := Int.mul_nonneg p1 (Int.le_of_lt hd)
      have m4 := Int.mul_nonneg p2 (Int.le_of_lt hb)
      rw [Int.mul_comm d b] at m2
      constructor
      · intro h
        have : b * d * (ta - tc) ≤ b * d * (-1) := Int.mul_le_mul_of_nonneg_left (by omega) (by omega)
        omega
      · intro h
        rcases Int.lt_or_le ta tc with h' | h'
        · exact h'
        · have : b * d * 1 ≤ b * d * (ta - tc) := Int.mul_le_mul_of_nonneg_left (by omega) (by omega)
          omega

end Go.Proofs.Ytigmhomfadimnaa.Pure
