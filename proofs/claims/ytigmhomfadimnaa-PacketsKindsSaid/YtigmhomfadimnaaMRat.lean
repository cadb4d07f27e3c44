/- Plain laws of packets: sums of fractions. -/
import Derived.Test.YtigmhomfadimnaaMBase
set_option linter.unusedVariables false
set_option linter.unusedSimpArgs false
namespace Go.Proofs.Ytigmhomfadimnaa.Pure
open Go.RowKit Go.Proofs.Ytigmhomfadimnaa.X Go.Proofs.YtigmhomfadimnaaW.PrintWords Go.Proofs.YtigmhomfadimnaaW.PrintLast Go.Proofs.YtigmhomfadimnaaW.PrintMore

theorem divInt_parts (S D : Int) (hD : 0 < D) : ∃ c : Int, 0 < c ∧ D = (Rat.divInt S D).den * c ∧ S = (Rat.divInt S D).num * c := by
  have hg : 0 < (Int.gcd S D : Int) := by have := gcd_ne S D hD; omega
  refine ⟨(Int.gcd S D : Int), hg, ?_, ?_⟩
  · have := congrArg Prod.snd (fr_divInt S D hD)
    simp only [fr] at this
    rw [this]
    exact (Int.tdiv_mul_cancel (Int.gcd_dvd_right ..)).symm
  · have := congrArg Prod.fst (fr_divInt S D hD)
    simp only [fr] at this
    rw [this]
    exact (Int.tdiv_mul_cancel (Int.gcd_dvd_left ..)).symm
theorem plus_core (S T D : Int) (hD : 0 < D) : ∃ g d e c : Int, 0 < g ∧ 0 < d ∧ 0 < e ∧ 0 < c ∧ ((Rat.divInt S D).den : Int) = d * g ∧ ((Rat.divInt T D).den : Int) = e * g ∧ (Int.gcd (Rat.divInt S D).den (Rat.divInt T D).den : Int) = g ∧
    D = d * (e * g) * c ∧ S + T = ((Rat.divInt S D).num * e + (Rat.divInt T D).num * d) * c := by
  obtain ⟨c1, h1, h2, h3⟩ := divInt_parts S D hD
  obtain ⟨c2, k1, k2, k3⟩ := divInt_parts T D hD
  generalize Rat.divInt S D = q at *
  generalize Rat.divInt T D = r at *
  have hq := q.den_pos
  have hr := r.den_pos
  obtain ⟨d, e, hco, hd, he⟩ := Nat.exists_coprime q.den r.den
  have hg : 0 < Nat.gcd q.den r.den := Nat.gcd_pos_of_pos_left _ hq
  have hdp : 0 < d := Nat.pos_of_ne_zero (by rintro rfl; omega)
  have hep : 0 < e := Nat.pos_of_ne_zero (by rintro rfl; omega)
  generalize Nat.gcd q.den r.den = g at *
  have hd' : (q.den : Int) = d * g := by exact_mod_cast hd
  have he' : (r.den : Int) = e * g := by exact_mod_cast he
  have hdvd : (e : Int) ∣ c1 := by
    have h4 : (d : Int) * c1 = e * c2 := by
      have h5 : (g : Int) * (d * c1) = g * (e * c2) := by
        have := h2.symm.trans k2
        rw [hd', he'] at this
        grind
      exact Int.eq_of_mul_eq_mul_left (by omega) h5
    have h6 : (e : Int) ∣ d * c1 := ⟨c2, h4⟩
    have h7 : Int.gcd (e : Int) d = 1 := by simpa [Int.gcd, Nat.gcd_comm] using hco
    have h8 : e ∣ d * c1.natAbs := by
      have := Int.natAbs_dvd_natAbs.2 h6
      simpa [Int.natAbs_mul] using this
    have h9 : e ∣ c1.natAbs := (Nat.Coprime.symm hco).dvd_of_dvd_mul_left h8
    exact Int.natAbs_dvd_natAbs.1 (by simpa using h9)
  obtain ⟨c, rfl⟩ := hdvd
  have hc : 0 < c := by
    exact Int.pos_of_mul_pos_right h1 (by omega : (0:Int) < e)
  have hc2 : c2 = d * c := by
    have h5 : ((e : Int) * g) * c2 = (e * g) * (d * c) := by
      have := h2.symm.trans k2
      rw [hd', he'] at this
      grind
    exact Int.eq_of_mul_eq_mul_left (by have := Int.mul_pos (show (0:Int) < e by omega) (show (0:Int) < g by omega); omega) h5
  refine ⟨g, d, e, c, by omega, by omega, by omega, hc, hd', he', ?_, ?_, ?_⟩
  · rw [hd, he, Int.gcd, Int.natAbs_natCast, Int.natAbs_natCast, Nat.gcd_mul_right, hco, Nat.one_mul]
  · rw [h2, hd']; grind
  · rw [h3, k3, hc2]; grind
theorem divInt_cancel (a b c : Int) (hb : 0 < b) (hc : 0 < c) : Rat.divInt (a * c) (b * c) = Rat.divInt a b := Rat.divInt_mul_right (by omega)
theorem le_mul_pos (a c : Int) (hc : 0 < c) : a.natAbs ≤ (a * c).natAbs := by
  rw [Int.natAbs_mul]
  exact Nat.le_mul_of_pos_right _ (by omega)
theorem ref_Plus_ev (S T D : Int) (hD : 0 < D) (hD2 : D < 9223372036854775808) (h0 : -9223372036854775808 < S + T) (h1 : S + T < 9223372036854775808) :
    Ev (fun k => comfitref04_Plus.f k (fr (Rat.divInt S D)).1 (fr (Rat.divInt S D)).2 (fr (Rat.divInt T D)).1 (fr (Rat.divInt T D)).2) (fr (Rat.divInt (S + T) D)) := by
  obtain ⟨g, d, e, c, hg, hd, he, hc, eq1, eq2, eq3, eqD, eqS⟩ := plus_core S T D hD
  have hL : 0 < d * (e * g) := Int.mul_pos hd (Int.mul_pos he hg)
  have hL2 : d * (e * g) ≤ D := by have := le_mul_pos (d * (e * g)) c hc; omega
  have hN := le_mul_pos ((Rat.divInt S D).num * e + (Rat.divInt T D).num * d) c hc
  rw [← eqS] at hN
  have hres : Rat.divInt (S + T) D = Rat.divInt ((Rat.divInt S D).num * e + (Rat.divInt T D).num * d) (d * (e * g)) := by
    rw [← divInt_cancel _ _ c hL hc, ← eqS, ← eqD]
  unfold fr at *
  simp only [] at *
  rw [hres]
  have eg : ((Rat.divInt S D).den.gcd (Rat.divInt T D).den : Int) = g := by
    rw [← eq3]; simp [Int.gcd]
  have hdg : 0 < d * g := Int.mul_pos hd hg
  have heg : 0 < e * g := Int.mul_pos he hg
  unfold comfitref04_Plus.f comfitref04_gcd.f
  refine Ev.bind (ref_gcd_ev _ _ _ (Nat.le_refl _) (by omega) (by omega)) ?_
  rw [eq3]
  refine Ev.ifNeg (by omega) (Ev.ifNeg (by omega) (Ev.ifNeg (by omega) ?_))
  rw [eq1, eq2]
  have hd1 : d ≤ d * (e * g) := by have := le_mul_pos d (e * g) heg; omega
  have t1 : Int.tdiv (d * g) g = d := Int.mul_tdiv_cancel _ (by omega)
  have t2 : Int.tdiv (d * (e * g)) (d * g) = e := by
    rw [show d * (e * g) = e * (d * g) by grind]
    exact Int.mul_tdiv_cancel _ (by omega)
  have t3 : Int.tdiv (d * (e * g)) (e * g) = d := Int.mul_tdiv_cancel _ (by omega)
  have he1 : e ≤ d * (e * g) := by have := le_mul_pos e (d * g) hdg; rw [show e * (d * g) = d * (e * g) by grind] at this; omega
  rw [t1, w_in (n := d) (by omega) (by omega), w_in (n := d * (e * g)) (by omega) (by omega), t2, t3, w_in (n := d) (by omega) (by omega), w_in (n := e) (by omega) (by omega), w_add, w_in (by omega) (by omega)]
  exact Ev.bind (ref_frac_ev _ _ hL (by omega) (by omega) (by omega)) (Ev.const rfl)
theorem packets_plus_ev (S T D : Int) (hD : 0 < D) (hD2 : D < 9223372036854775808) (h0 : -9223372036854775808 < S + T) (h1 : S + T < 9223372036854775808) :
    Ev (fun k => packets_plus.f k (fr (Rat.divInt S D)).1 (fr (Rat.divInt S D)).2 (fr (Rat.divInt T D)).1 (fr (Rat.divInt T D)).2) (fr (Rat.divInt (S + T) D)) := by
  obtain ⟨g, d, e, c, hg, hd, he, hc, eq1, eq2, eq3, eqD, eqS⟩ := plus_core S T D hD
  have hL : 0 < d * (e * g) := Int.mul_pos hd (Int.mul_pos he hg)
  have hL2 : d * (e * g) ≤ D := by have := le_mul_pos (d * (e * g)) c hc; omega
  have hN := le_mul_pos ((Rat.divInt S D).num * e + (Rat.divInt T D).num * d) c hc
  rw [← eqS] at hN
  have hres : Rat.divInt (S + T) D = Rat.divInt ((Rat.divInt S D).num * e + (Rat.divInt T D).num * d) (d * (e * g)) := by
    rw [← divInt_cancel _ _ c hL hc, ← eqS, ← eqD]
  unfold fr at *
  simp only [] at *
  rw [hres]
  have hdg : 0 < d * g := Int.mul_pos hd hg
  have heg : 0 < e * g := Int.mul_pos he hg
  have hd1 : d ≤ d * (e * g) := by have := le_mul_pos d (e * g) heg; omega
  have he1 : e ≤ d * (e * g) := by have := le_mul_pos e (d * g) hdg; rw [show e * (d * g) = d * (e * g) by grind] at this; omega
  have hdgL : d * g ≤ d * (e * g) := by have := le_mul_pos (d * g) e he; rw [show d * g * e = d * (e * g) by grind] at this; omega
  have hegL : e * g ≤ d * (e * g) := by have := le_mul_pos (e * g) d hd; rw [show e * g * d = d * (e * g) by grind] at this; omega
  unfold packets_plus.f packets_gcd.f
  refine Ev.bind (packets_gcd_ev _ _ _ (Nat.le_refl _) (by omega) (by omega)) ?_
  rw [eq3]
  refine Ev.ifNeg (by omega) ?_
  rw [eq1, eq2]
  have t1 : Int.tdiv (d * g) g = d := Int.mul_tdiv_cancel _ (by omega)
  have t2 : Int.tdiv (e * g) g = e := Int.mul_tdiv_cancel _ (by omega)
  rw [t1, t2, w_in (n := d) (by omega) (by omega), w_in (n := e) (by omega) (by omega), w_in (n := d * (e * g)) (by omega) (by omega), w_add, w_in (by omega) (by omega)]
  exact Ev.bind (packets_frac_ev _ _ hL (by omega) (by omega) (by omega)) (Ev.const rfl)

end Go.Proofs.Ytigmhomfadimnaa.Pure
