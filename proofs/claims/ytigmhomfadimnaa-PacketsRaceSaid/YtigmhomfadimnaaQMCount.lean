/- Plain laws of packets: sums in bounds, and how many kinds came. -/
import Derived.Test.YtigmhomfadimnaaQXL
import Derived.Test.YtigmhomfadimnaaQXLA
import Derived.Test.YtigmhomfadimnaaQX0
import Derived.Test.YtigmhomfadimnaaQXP
import Derived.Test.YtigmhomfadimnaaQXV
import Derived.Test.YtigmhomfadimnaaQHDone
import Derived.Test.YtigmhomfadimnaaQMDone
set_option linter.unusedVariables false
set_option linter.unusedSimpArgs false
namespace Go.Proofs.Ytigmhomfadimnaa.Pure
open Go.RowKit Go.Proofs.Ytigmhomfadimnaa.X Go.Proofs.YtigmhomfadimnaaW.PrintWords Go.Proofs.YtigmhomfadimnaaW.PrintLast Go.Proofs.YtigmhomfadimnaaW.PrintMore

/-! Plain laws of packets' statements: sums that are held in bounds, and numbers from 0 to a bound. -/
theorem right_ok (S D b : Int) (hD : 0 < D) (hb : 0 ≤ b) (hb2 : b < 1000000) (h0 : 0 ≤ S) (h1 : S ≤ b * D) : comfitlaw04_right.f (fr (Rat.divInt S D)).1 (fr (Rat.divInt S D)).2 b = some true := by
  obtain ⟨c, hc, eD, eS⟩ := divInt_parts S D hD
  have hq := (Rat.divInt S D).den_pos
  unfold fr
  simp only []
  generalize Rat.divInt S D = q at *
  have hn : 0 ≤ q.num := by
    rcases Int.lt_or_le q.num 0 with h | h
    · have := Int.mul_neg_of_neg_of_pos h hc; omega
    · exact h
  have hd : 0 < (q.den : Int) := by omega
  have hle : q.num ≤ b * q.den := by
    refine Int.le_of_mul_le_mul_right ?_ hc
    rw [← eS, Int.mul_assoc, ← eD]
    exact h1
  have hdm := Int.mul_tdiv_add_tmod q.num q.den
  have hm0 := Int.tmod_nonneg (q.den : Int) hn
  have ht : Int.tdiv q.num q.den ≤ b := by
    rw [Int.tdiv_eq_ediv_of_nonneg hn]
    exact Int.ediv_le_of_le_mul hd (by rw [Int.mul_comm] at hle; rwa [Int.mul_comm])
  have ht0 : 0 ≤ Int.tdiv q.num q.den := Int.tdiv_nonneg hn (by omega)
  unfold comfitlaw04_right.f
  rw [if_pos (by omega), if_pos (by omega), if_neg (by omega), w_in (by omega) (by omega), if_pos ht]
  by_cases hlt : Int.tdiv q.num q.den < b
  · rw [if_pos hlt]
  · rw [if_neg hlt]
    have e : Int.tdiv q.num q.den = b := by omega
    rw [e, Int.mul_comm] at hdm
    have : Int.tmod q.num q.den = 0 := by omega
    rw [this]
    rfl
theorem added_gcd (v : Int × Int × Bool) (a b c d : Int) (s : Bool) : ∀ (n : Nat) (x y : Int), y.natAbs ≤ n → 0 ≤ x → 0 ≤ y → Ev (fun k => comfitlaw04_added.l0 k s (Int.gcd x y : Int) 0 a b c d) v → Ev (fun k => comfitlaw04_added.l0 k s x y a b c d) v := by
  intro n
  induction n with
  | zero =>
    intro x y hy hx _ hv
    obtain rfl : y = 0 := by omega
    rw [Int.gcd_zero_right, Int.natAbs_of_nonneg hx] at hv
    exact hv
  | succ n ih =>
    intro x y hy hx hy0 hv
    by_cases h0 : y = 0
    · exact ih x y (by omega) hx hy0 hv
    · have hlt := tmod_lt x y h0
      have hnn : 0 ≤ Int.tmod x y := Int.tmod_nonneg _ hx
      refine Ev.succ (g := fun k => comfitlaw04_added.l0 k s y (Int.tmod x y) a b c d) (ih y (Int.tmod x y) (by omega) hy0 hnn (by rw [gcd_tmod]; exact hv)) (fun k => by rw [comfitlaw04_added.l0, if_neg h0])
theorem added_ev (S T D : Int) (hD : 0 < D) (hD2 : D ≤ 1152921504606846976) (hS : 0 ≤ S) (hT : 0 ≤ T) (h1 : S + T < 4611686018427387904) :
    Ev (fun k => comfitlaw04_added.f k (fr (Rat.divInt S D)).1 (fr (Rat.divInt S D)).2 (fr (Rat.divInt T D)).1 (fr (Rat.divInt T D)).2 false) ((fr (Rat.divInt (S + T) D)).1, (fr (Rat.divInt (S + T) D)).2, true) := by
  have hplus := ref_Plus_ev S T D hD (by omega) (by omega) (by omega)
  obtain ⟨cS, hcS, eDS, eSS⟩ := divInt_parts S D hD
  obtain ⟨cT, hcT, eDT, eTT⟩ := divInt_parts T D hD
  obtain ⟨g, d, e, c, hg, hd, he, hc, eq1, eq2, eq3, eqD, eqS⟩ := plus_core S T D hD
  have hdg : 0 < d * g := Int.mul_pos hd hg
  have heg : 0 < e * g := Int.mul_pos he hg
  have hL : 0 < d * (e * g) := Int.mul_pos hd heg
  have hL2 : d * (e * g) ≤ D := by have := le_mul_pos (d * (e * g)) c hc; omega
  have hd1 : d ≤ d * (e * g) := by have := le_mul_pos d (e * g) heg; omega
  have he1 : e ≤ d * (e * g) := by have := le_mul_pos e (d * g) hdg; rw [show e * (d * g) = d * (e * g) by grind] at this; omega
  have hdgL : d * g ≤ d * (e * g) := by have := le_mul_pos (d * g) e he; rw [show d * g * e = d * (e * g) by grind] at this; omega
  have hegL : e * g ≤ d * (e * g) := by have := le_mul_pos (e * g) d hd; rw [show e * g * d = d * (e * g) by grind] at this; omega
  unfold fr at *
  simp only [] at *
  generalize Rat.divInt S D = q at *
  generalize Rat.divInt T D = r at *
  have hq0 : 0 ≤ q.num := by
    rcases Int.lt_or_le q.num 0 with h | h
    · have := Int.mul_neg_of_neg_of_pos h hcS; omega
    · exact h
  have hr0 : 0 ≤ r.num := by
    rcases Int.lt_or_le r.num 0 with h | h
    · have := Int.mul_neg_of_neg_of_pos h hcT; omega
    · exact h
  have hqe : 0 ≤ q.num * e := Int.mul_nonneg hq0 (by omega)
  have hrd : 0 ≤ r.num * d := Int.mul_nonneg hr0 (by omega)
  have hN := le_mul_pos (q.num * e + r.num * d) c hc
  rw [← eqS] at hN
  have t1 : Int.tdiv (d * g) g = d := Int.mul_tdiv_cancel _ (by omega)
  have t2 : Int.tdiv (d * (e * g)) (d * g) = e := by
    rw [show d * (e * g) = e * (d * g) by grind]
    exact Int.mul_tdiv_cancel _ (by omega)
  have t3 : Int.tdiv (d * (e * g)) (e * g) = d := Int.mul_tdiv_cancel _ (by omega)
  have b1 : ¬ (wrap64 d > wrap64 (Int.tdiv 1152921504606846976 (e * g))) := by
    have : Int.tdiv 1152921504606846976 (e * g) = 1152921504606846976 / (e * g) := Int.tdiv_eq_ediv_of_nonneg (by omega)
    have hle : d ≤ 1152921504606846976 / (e * g) := (Int.le_ediv_iff_mul_le heg).2 (by omega)
    have hle2 : 1152921504606846976 / (e * g) ≤ 1152921504606846976 := Int.ediv_le_self _ (by omega)
    rw [this, w_in (by omega) (by omega), w_in (by omega) (by omega)]
    omega
  have b2 : ∀ x y : Int, 0 ≤ x → 0 < y → y < 9223372036854775808 → x * y < 4611686018427387904 → ¬ (x > wrap64 (Int.tdiv 9223372036854775807 y)) := by
    intro x y hx hy hy2 hxy
    have : Int.tdiv 9223372036854775807 y = 9223372036854775807 / y := Int.tdiv_eq_ediv_of_nonneg (by omega)
    have hle : x ≤ 9223372036854775807 / y := (Int.le_ediv_iff_mul_le hy).2 (by omega)
    have hle2 : 9223372036854775807 / y ≤ 9223372036854775807 := Int.ediv_le_self _ (by omega)
    rw [this, w_in (by omega) (by omega)]
    omega
  unfold comfitlaw04_added.f
  refine added_gcd _ _ _ _ _ _ _ _ _ (Nat.le_refl _) (by omega) (by omega) ?_
  rw [eq3, eq1, eq2]
  rw [eq1, eq2] at hplus
  refine Ev.succ (g := fun k => comfitlaw04_added.j1 k false false q.num (d * g) r.num (e * g)) ?_ (fun k => ?_)
  · refine Ev.succ (g := fun k => (comfitref04_Plus.f k q.num (d * g) r.num (e * g)).bind fun bt175 => some (bt175.1, bt175.2, true)) (Ev.bind hplus (Ev.const rfl)) (fun k => by rw [comfitlaw04_added.j1, if_neg (by simp), if_neg (by simp)])
  · rw [comfitlaw04_added.l0, if_pos rfl, if_neg (by omega), if_neg (by omega), t1, if_neg b1, if_neg (by omega), w_in (n := d) (by omega) (by omega), w_in (n := d * (e * g)) (by omega) (by omega), t2, t3, w_in (n := e) (by omega) (by omega), w_in (n := d) (by omega) (by omega), if_neg (by omega), if_neg (b2 _ _ hq0 he (by omega) (by omega)), if_neg (by omega), decide_eq_false (b2 _ _ hr0 hd (by omega) (by omega))]

/-! Plain laws of packets: how many kinds came, in the program. -/
end Go.Proofs.Ytigmhomfadimnaa.Pure
