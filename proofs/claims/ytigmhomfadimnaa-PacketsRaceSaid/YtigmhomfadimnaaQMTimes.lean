/- Plain laws of fractions: a product, and one step of a sum of products, in the reference's words. -/
import Derived.Test.YtigmhomfadimnaaQMBase
import Derived.Test.YtigmhomfadimnaaQX0
import Derived.Test.YtigmhomfadimnaaQXR
set_option linter.unusedVariables false
set_option linter.unusedSimpArgs false
namespace Go.Proofs.Ytigmhomfadimnaa.Pure
open Go.RowKit Go.Proofs.Ytigmhomfadimnaa.X Go.Proofs.YtigmhomfadimnaaW.PrintWords Go.Proofs.YtigmhomfadimnaaW.PrintLast Go.Proofs.YtigmhomfadimnaaW.PrintMore
/-- A fraction that is kept. -/
structure Fits (p : Rat) : Prop where
  lo : -9223372036854775808 < p.num
  hi : p.num < 9223372036854775808
  den : (p.den : Int) < 9223372036854775808
theorem Fits.of_over {N D : Int} (hD : 0 < D) (hD2 : D < 9223372036854775808) (h0 : -9223372036854775808 < N) (h1 : N < 9223372036854775808) : Fits (Rat.divInt N D) := by
  obtain ⟨c, hc, eD, eN⟩ := divInt_parts N D hD
  have hd : 0 < ((Rat.divInt N D).den : Int) := by have := (Rat.divInt N D).den_pos; omega
  have h2 : ((Rat.divInt N D).den : Int) * 1 ≤ ((Rat.divInt N D).den : Int) * c := Int.mul_le_mul_of_nonneg_left (by omega) (by omega)
  have h3 : (Rat.divInt N D).num.natAbs * 1 ≤ (Rat.divInt N D).num.natAbs * c.natAbs := Nat.mul_le_mul_left _ (by omega)
  have h4 : N.natAbs = (Rat.divInt N D).num.natAbs * c.natAbs := by conv => lhs; rw [eN]
                                                                    exact Int.natAbs_mul _ _
  exact ⟨by omega, by omega, by omega⟩
theorem mul_parts (p q : Rat) : (p * q).num = Int.tdiv p.num (Int.gcd p.num q.den) * Int.tdiv q.num (Int.gcd q.num p.den) ∧ ((p * q).den : Int) = Int.tdiv (p.den : Int) (Int.gcd q.num p.den) * Int.tdiv (q.den : Int) (Int.gcd p.num q.den) := by
  show (Rat.mul p q).num = _ ∧ ((Rat.mul p q).den : Int) = _
  have a1 : (Int.gcd p.num q.den : Int) ∣ p.num := Int.gcd_dvd_left ..
  have a2 : (Int.gcd p.num q.den : Int) ∣ (q.den : Int) := Int.gcd_dvd_right ..
  have a3 : (Int.gcd q.num p.den : Int) ∣ q.num := Int.gcd_dvd_left ..
  have a4 : (Int.gcd q.num p.den : Int) ∣ (p.den : Int) := Int.gcd_dvd_right ..
  rw [Int.tdiv_eq_ediv_of_dvd a1, Int.tdiv_eq_ediv_of_dvd a2, Int.tdiv_eq_ediv_of_dvd a3, Int.tdiv_eq_ediv_of_dvd a4]
  unfold Rat.mul
  constructor
  · simp only [Int.divExact_eq_ediv]; rfl
  · simp only [Nat.divExact_eq_div]; rfl
end Go.Proofs.Ytigmhomfadimnaa.Pure
