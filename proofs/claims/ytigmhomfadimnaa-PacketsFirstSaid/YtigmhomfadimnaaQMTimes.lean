/- Plain laws of fractions: a product, and one step of a sum of products, in the reference's words. -/
import Derived.Test.YtigmhomfadimnaaQMBase
import Derived.Test.YtigmhomfadimnaaQXRT
set_option linter.unusedVariables false
set_option linter.unusedSimpArgs false
namespace Go.Proofs.Ytigmhomfadimnaa.Pure
open Go.RowKit Go.Proofs.Ytigmhomfadimnaa.X Go.Proofs.YtigmhomfadimnaaW.PrintWords Go.Proofs.YtigmhomfadimnaaW.PrintLast Go.Proofs.YtigmhomfadimnaaW.PrintMore
/-- A fraction that is kept. -/
structure Fits (p : Rat) : Prop where
  lo : -9223372036854775808 < p.num
  hi : p.num < 9223372036854775808
  den : (p.den : Int) < 9223372036854775808
theorem Fits.of_over {N D : Int} (hD : 0 < D) (hD2 : D < 9223372036854775808) (h0 : -9223372036854775808 < N) (h1 : N < 9223372036854775808) : Fits (Rat.divInt N D) := by
  obtain ⟨c, hc, eD, eN⟩ := divInt_parts N D hD
  have hd : 0 < ((Rat.divInt N D).den : Int) := by have := (Rat.divInt N D).den_pos; omega
  have h2 : ((Rat.divInt N D).den : Int) * 1 ≤ ((Rat.divInt N D).den : Int) * c := Int.mul_le_mul_of_nonneg_left (by omega) (by omega)
  have h3 : (Rat.divInt N D).num.natAbs * 1 ≤ (Rat.divInt N D).num.natAbs * c.natAbs := Nat.mul_le_mul_left _ (by omega)
  have h4 : N.natAbs = (Rat.divInt N D).num.natAbs * c.natAbs := by conv => lhs; rw [eN]
                                                                    exact Int.natAbs_mul _ _
  exact ⟨by omega, by omega, by omega⟩
theorem mul_parts (p q : Rat) : (p * q).num = Int.tdiv p.num (Int.gcd p.num q.den) * Int.tdiv q.num (Int.gcd q.num p.den) ∧ ((p * q).den : Int) = Int.tdiv (p.den : Int) (Int.gcd q.num p.den) * Int.tdiv (q.den : Int) (Int.gcd p.num q.den) := by
  show (Rat.mul p q).num = _ ∧ ((Rat.mul p q).den : Int) = _
  have a1 : (Int.gcd p.num q.den : Int) ∣ p.num := Int.gcd_dvd_left ..
  have a2 : (Int.gcd p.num q.den : Int) ∣ (q.den : Int) := Int.gcd_dvd_right ..
  have a3 : (Int.gcd q.num p.den : Int) ∣ q.num := Int.gcd_dvd_left ..
  have a4 : (Int.gcd q.num p.den : Int) ∣ (p.den : Int) := Int.gcd_dvd_right ..
  rw [Int.tdiv_eq_ediv_of_dvd a1, Int.tdiv_eq_ediv_of_dvd a2, Int.tdiv_eq_ediv_of_dvd a3, Int.tdiv_eq_ediv_of_dvd a4]
  unfold Rat.mul
  constructor
  · simp only [Int.divExact_eq_ediv]; rfl
  · simp only [Nat.divExact_eq_div]; rfl
theorem times_ev (p q : Rat) (hp : Fits p) (hq : Fits q) (hr : Fits (p * q)) : Ev (fun k => comfitref04_times.f k (fr p).1 (fr p).2 (fr q).1 (fr q).2) (fr (p * q)) := by
  unfold comfitref04_times.f
  have hpd := p.den_pos
  have hqd := q.den_pos
  have h1 := ref_frac_ev p.num (q.den : Int) (by omega) hq.den hp.lo hp.hi
  have h2 := ref_frac_ev q.num (p.den : Int) (by omega) hp.den hq.lo hq.hi
  refine Ev.bind h1 (Ev.bind h2 (Ev.const ?_))
  rw [fr_divInt _ _ (by omega), fr_divInt _ _ (by omega)]
  obtain ⟨e1, e2⟩ := mul_parts p q
  have w1 : wrap64 (p * q).num = (p * q).num := w_in (by have := hr.lo; omega) hr.hi
  have w2 : wrap64 ((p * q).den : Int) = ((p * q).den : Int) := w_in (by omega) hr.den
  show some (wrap64 _, wrap64 _) = some ((p * q).num, ((p * q).den : Int))
  rw [← e1, w1, Int.mul_comm, ← e2, w2]
/-- One step of a sum of products. -/
theorem step_ev (p q : Rat) (y w N T E : Int) (hw : 0 < w) (hw2 : w < 9223372036854775808) (hy : 0 ≤ y) (hy2 : y < 9223372036854775808) (hE : 0 < E) (hE2 : E < 9223372036854775808) (hp : p = Rat.divInt N E) (ht : Rat.divInt y w * q = Rat.divInt T E)
    (hN : 0 ≤ N) (hT : 0 ≤ T) (hNT : N + T < 9223372036854775808) (hq : Fits q) {v : Int × Int} {g : Nat → Int × Int → Option (Int × Int)} (hg : Ev (fun k => g k (fr (p + Rat.divInt y w * q))) v) :
    Ev (fun k => (comfitref04_frac.f k y w).bind fun a => (comfitref04_times.f k a.1 a.2 (fr q).1 (fr q).2).bind fun b => (comfitref04_Plus.f k (fr p).1 (fr p).2 b.1 b.2).bind fun c => g k c) v := by
  have f1 := ref_frac_ev y w hw hw2 (by omega) hy2
  have F1 : Fits (Rat.divInt y w) := Fits.of_over hw hw2 (by omega) hy2
  have FT : Fits (Rat.divInt y w * q) := by rw [ht]; exact Fits.of_over hE hE2 (by omega) (by omega)
  have f2 := times_ev (Rat.divInt y w) q F1 hq FT
  have f3 := ref_Plus_ev N T E hE hE2 (by omega) hNT
  rw [← hp, ← ht] at f3
  have e : Rat.divInt (N + T) E = p + Rat.divInt y w * q := by
    rw [hp, ht, Rat.divInt_eq_div, Rat.divInt_eq_div, Rat.divInt_eq_div, Rat.intCast_add]
    grind
  rw [e] at f3
  exact Ev.bind f1 (Ev.bind f2 (Ev.bind f3 hg))
end Go.Proofs.Ytigmhomfadimnaa.Pure
