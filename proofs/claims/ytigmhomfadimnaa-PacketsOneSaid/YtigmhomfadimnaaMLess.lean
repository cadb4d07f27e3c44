/- Plain laws of packets' statements: one number less than another, and differences that are held in bounds. -/
import Derived.Test.YtigmhomfadimnaaMBase
import Derived.Test.YtigmhomfadimnaaMCount
import Derived.Test.YtigmhomfadimnaaXSL
set_option linter.unusedVariables false
set_option linter.unusedSimpArgs false
namespace Go.Proofs.Ytigmhomfadimnaa.Pure
open Go.RowKit Go.Proofs.Ytigmhomfadimnaa.X Go.Proofs.YtigmhomfadimnaaW.PrintWords Go.Proofs.YtigmhomfadimnaaW.PrintLast Go.Proofs.YtigmhomfadimnaaW.PrintMore

theorem less_go : ∀ (n : Nat) (a b c d : Int), 0 ≤ a → 0 < b → 0 ≤ c → 0 < d → a < 9223372036854775808 → c < 9223372036854775808 → b < 9223372036854775808 → d < 9223372036854775808 → b.natAbs + d.natAbs ≤ n → Ev (fun k => comfitref04_Less.l0 k a b c d) (decide (a * d < c * b)) := by
  intro n
  induction n with
  | zero => intro a b c d _ hb _ _ _ _ _ _ h; omega
  | succ n ih =>
    intro a b c d ha hb hc hd ha2 hc2 hb2 hd2 hn
    have e1 := Int.mul_tdiv_add_tmod a b
    have e2 := Int.mul_tdiv_add_tmod c d
    have p1 := Int.tmod_nonneg b ha
    have p2 := Int.tmod_nonneg d hc
    have q1 := Int.tmod_lt_of_pos a hb
    have q2 := Int.tmod_lt_of_pos c hd
    have w1 := tdiv_w a b (by omega) ha2
    have w2 := tdiv_w c d (by omega) hc2
    generalize hra : Int.tmod a b = ra at *
    generalize hrc : Int.tmod c d = rc at *
    generalize hta : Int.tdiv a b = ta at *
    generalize htc : Int.tdiv c d = tc at *
    by_cases ht : ta = tc
    · subst ht
      have hiff : a * d < c * b ↔ ra * d < rc * b := by
        rw [← e1, ← e2]
        have : (b * ta + ra) * d - (d * ta + rc) * b = ra * d - rc * b := by grind
        omega
      by_cases h1 : rc = 0
      · refine Ev.succ (g := fun _ => some false) (Ev.const ?_) (fun k => by rw [comfitref04_Less.l0, if_neg (by omega), if_neg (by omega), hta, htc, if_pos (by rw [w1]), hrc, if_pos h1])
        congr 1
        rw [eq_comm, decide_eq_false_iff_not, hiff, h1]
        have := Int.mul_nonneg p1 (Int.le_of_lt hd)
        omega
      · by_cases h2 : ra = 0
        · refine Ev.succ (g := fun _ => some true) (Ev.const ?_) (fun k => by rw [comfitref04_Less.l0, if_neg (by omega), if_neg (by omega), hta, htc, if_pos (by rw [w1]), hrc, hra, if_neg h1, if_pos h2])
          congr 1
          rw [eq_comm, decide_eq_true_eq, hiff, h2]
          have := Int.mul_pos (show 0 < rc by omega) hb
          omega
        · have hrec := ih d rc b ra (by omega) (by omega) (by omega) (by omega)
          refine Ev.succ ((hrec hd2 hb2 (by omega) (by omega) (by omega)).cast ?_) (fun k => by rw [comfitref04_Less.l0, if_neg (by omega), if_neg (by omega), hta, htc, if_pos (by rw [w1]), hrc, hra, if_neg h1, if_neg h2])
          rw [decide_eq_decide, hiff, Int.mul_comm d ra, Int.mul_comm b rc]
    · refine Ev.succ (g := fun _ => some (decide (ta < tc))) (Ev.const ?_) (fun k => by rw [comfitref04_Less.l0, if_neg (by omega), if_neg (by omega), hta, htc, if_neg (by rw [w1, w2]; exact ht), w1, w2])
      congr 1
      rw [decide_eq_decide, ← e1, ← e2]
      have hx : (b * ta + ra) * d - (d * tc + rc) * b = b * d * (ta - tc) + ra * d - rc * b := by grind
      have hbd := Int.mul_pos hb hd
      have m1 : ra * d < b * d := Int.mul_lt_mul_of_pos_right q1 hd
      have m2 : rc * b < d * b := Int.mul_lt_mul_of_pos_right q2 hb
      have m3 := Int.mul_nonneg p1 (Int.le_of_lt hd)
      have m4 := Int.mul_nonneg p2 (Int.le_of_lt hb)
      rw [Int.mul_comm d b] at m2
      constructor
      · intro h
        have : b * d * (ta - tc) ≤ b * d * (-1) := Int.mul_le_mul_of_nonneg_left (by omega) (by omega)
        omega
      · intro h
        rcases Int.lt_or_le ta tc with h' | h'
        · exact h'
        · have : b * d * 1 ≤ b * d * (ta - tc) := Int.mul_le_mul_of_nonneg_left (by omega) (by omega)
          omega

theorem Less_ev (S T D E : Int) (hD : 0 < D) (hE : 0 < E) (hS : 0 ≤ S) (hT : 0 ≤ T) (hS2 : S < 9223372036854775808) (hT2 : T < 9223372036854775808) (hD2 : D < 9223372036854775808) (hE2 : E < 9223372036854775808) :
    Ev (fun k => comfitref04_Less.f k (fr (Rat.divInt S D)).1 (fr (Rat.divInt S D)).2 (fr (Rat.divInt T E)).1 (fr (Rat.divInt T E)).2) (decide (S * E < T * D)) := by
  obtain ⟨c, hc, eD, eS⟩ := divInt_parts S D hD
  obtain ⟨c', hc', eE, eT⟩ := divInt_parts T E hE
  have hq := (Rat.divInt S D).den_pos
  have hr := (Rat.divInt T E).den_pos
  unfold fr comfitref04_Less.f
  simp only []
  generalize Rat.divInt S D = q at *
  generalize Rat.divInt T E = r at *
  have hn : 0 ≤ q.num := by
    rcases Int.lt_or_le q.num 0 with h | h
    · have := Int.mul_neg_of_neg_of_pos h hc; omega
    · exact h
  have hm : 0 ≤ r.num := by
    rcases Int.lt_or_le r.num 0 with h | h
    · have := Int.mul_neg_of_neg_of_pos h hc'; omega
    · exact h
  have b1 := le_mul_pos q.num c hc
  have b2 := le_mul_pos r.num c' hc'
  have b3 := le_mul_pos (q.den : Int) c hc
  have b4 := le_mul_pos (r.den : Int) c' hc'
  rw [← eS] at b1
  rw [← eT] at b2
  rw [← eD] at b3
  rw [← eE] at b4
  refine (less_go _ q.num q.den r.num r.den hn (by omega) hm (by omega) (by omega) (by omega) (by omega) (by omega) (Nat.le_refl _)).cast ?_
  rw [decide_eq_decide]
  have hcc := Int.mul_pos hc hc'
  have x1 : S * E = (q.num * r.den) * (c * c') := by rw [eS, eE]; grind
  have x2 : T * D = (r.num * q.den) * (c * c') := by rw [eT, eD]; grind
  rw [x1, x2]
  exact (Int.mul_lt_mul_right hcc).symm
theorem minus_ev (S T D : Int) (hD : 0 < D) (hD2 : D ≤ 1152921504606846976) (hT : 0 ≤ T) (hST : T ≤ S) (hS : S < 9223372036854775808) :
    Ev (fun k => comfitlaw04_added.f k (fr (Rat.divInt S D)).1 (fr (Rat.divInt S D)).2 (fr (Rat.divInt T D)).1 (fr (Rat.divInt T D)).2 true) ((fr (Rat.divInt (S - T) D)).1, (fr (Rat.divInt (S - T) D)).2, true) := by
  have hneg : Rat.divInt (-T) D = -(Rat.divInt T D) := by rw [Rat.divInt_eq_div, Rat.divInt_eq_div, Rat.intCast_neg]; grind
  have hplus := ref_Plus_ev S (-T) D hD (by omega) (by omega) (by omega)
  obtain ⟨cS, hcS, eDS, eSS⟩ := divInt_parts S D hD
  obtain ⟨cT, hcT, eDT, eTT⟩ := divInt_parts T D hD
  obtain ⟨g, d, e, c, hg, hd, he, hc, eq1, eq2, eq3, eqD, eqS⟩ := plus_core S T D hD
  have hdg : 0 < d * g := Int.mul_pos hd hg
  have heg : 0 < e * g := Int.mul_pos he hg
  have hL : 0 < d * (e * g) := Int.mul_pos hd heg
  have hL2 : d * (e * g) ≤ D := by have := le_mul_pos (d * (e * g)) c hc; omega
  have hd1 : d ≤ d * (e * g) := by have := le_mul_pos d (e * g) heg; omega
  have he1 : e ≤ d * (e * g) := by have := le_mul_pos e (d * g) hdg; rw [show e * (d * g) = d * (e * g) by grind] at this; omega
  have hdgL : d * g ≤ d * (e * g) := by have := le_mul_pos (d * g) e he; rw [show d * g * e = d * (e * g) by grind] at this; omega
  have hegL : e * g ≤ d * (e * g) := by have := le_mul_pos (e * g) d hd; rw [show e * g * d = d * (e * g) by grind] at this; omega
  rw [hneg, ← Int.sub_eq_add_neg] at hplus
  have hnn : (-(Rat.divInt T D)).num = -(Rat.divInt T D).num := Rat.neg_num _
  have hnd : (-(Rat.divInt T D)).den = (Rat.divInt T D).den := Rat.neg_den _
  unfold fr at *
  simp only [] at *
  rw [hnn, hnd] at hplus
  generalize Rat.divInt S D = q at *
  generalize Rat.divInt T D = r at *
  have hq0 : 0 ≤ q.num := by
    rcases Int.lt_or_le q.num 0 with h | h
    · have := Int.mul_neg_of_neg_of_pos h hcS; omega
    · exact h
  have hr0 : 0 ≤ r.num := by
    rcases Int.lt_or_le r.num 0 with h | h
    · have := Int.mul_neg_of_neg_of_pos h hcT; omega
    · exact h
  have ecS : cS = e * c := by
    have h5 : (d * g) * cS = (d * g) * (e * c) := by rw [← eq1, ← eDS, eqD, eq1]; grind
    exact Int.eq_of_mul_eq_mul_left (by omega) h5
  have ecT : cT = d * c := by
    have h5 : (e * g) * cT = (e * g) * (d * c) := by rw [← eq2, ← eDT, eqD, eq2]; grind
    exact Int.eq_of_mul_eq_mul_left (by omega) h5
  have hqe : q.num * e ≤ S := by
    have := le_mul_pos (q.num * e) c hc
    rw [show q.num * e * c = S by rw [eSS, ecS]; grind] at this
    have := Int.mul_nonneg hq0 (show 0 ≤ e by omega)
    omega
  have hrd : r.num * d ≤ T := by
    have := le_mul_pos (r.num * d) c hc
    rw [show r.num * d * c = T by rw [eTT, ecT]; grind] at this
    have := Int.mul_nonneg hr0 (show 0 ≤ d by omega)
    omega
  have hrT : r.num ≤ T := by
    have := le_mul_pos r.num cT hcT
    rw [← eTT] at this
    omega
  have t1 : Int.tdiv (d * g) g = d := Int.mul_tdiv_cancel _ (by omega)
  have t2 : Int.tdiv (d * (e * g)) (d * g) = e := by
    rw [show d * (e * g) = e * (d * g) by grind]
    exact Int.mul_tdiv_cancel _ (by omega)
  have t3 : Int.tdiv (d * (e * g)) (e * g) = d := Int.mul_tdiv_cancel _ (by omega)
  have b1 : ¬ (wrap64 d > wrap64 (Int.tdiv 1152921504606846976 (e * g))) := by
    have : Int.tdiv 1152921504606846976 (e * g) = 1152921504606846976 / (e * g) := Int.tdiv_eq_ediv_of_nonneg (by omega)
    have hle : d ≤ 1152921504606846976 / (e * g) := (Int.le_ediv_iff_mul_le heg).2 (by omega)
    have hle2 : 1152921504606846976 / (e * g) ≤ 1152921504606846976 := Int.ediv_le_self _ (by omega)
    rw [this, w_in (by omega) (by omega), w_in (by omega) (by omega)]
    omega
  have b2 : ∀ x y : Int, 0 ≤ x → 0 < y → y < 9223372036854775808 → x * y < 9223372036854775808 → ¬ (x > wrap64 (Int.tdiv 9223372036854775807 y)) := by
    intro x y hx hy hy2 hxy
    have : Int.tdiv 9223372036854775807 y = 9223372036854775807 / y := Int.tdiv_eq_ediv_of_nonneg (by omega)
    have hle : x ≤ 9223372036854775807 / y := (Int.le_ediv_iff_mul_le hy).2 (by omega)
    have hle2 : 9223372036854775807 / y ≤ 9223372036854775807 := Int.ediv_le_self _ (by omega)
    rw [this, w_in (by omega) (by omega)]
    omega
  unfold comfitlaw04_added.f
  refine added_gcd _ _ _ _ _ _ _ _ _ (Nat.le_refl _) (by omega) (by omega) ?_
  rw [eq3, eq1, eq2]
  rw [eq1, eq2] at hplus
  refine Ev.succ (g := fun k => comfitlaw04_added.j1 k true false q.num (d * g) r.num (e * g)) ?_ (fun k => ?_)
  · refine Ev.succ (g := fun k => (comfitref04_Minus.f k q.num (d * g) r.num (e * g)).bind fun bt173 => some (bt173.1, bt173.2, true)) (Ev.bind (v := ((Rat.divInt (S - T) D).num, ((Rat.divInt (S - T) D).den : Int))) ?_ (Ev.const rfl)) (fun k => by rw [comfitlaw04_added.j1, if_neg (by simp), if_pos rfl])
    unfold comfitref04_Minus.f
    rw [w_in (n := -r.num) (by omega) (by omega)]
    exact Ev.bind hplus (Ev.const rfl)
  · rw [comfitlaw04_added.l0, if_pos rfl, if_neg (by omega), if_neg (by omega), t1, if_neg b1, if_neg (by omega), w_in (n := d) (by omega) (by omega), w_in (n := d * (e * g)) (by omega) (by omega), t2, t3, w_in (n := e) (by omega) (by omega), w_in (n := d) (by omega) (by omega), if_neg (by omega), if_neg (b2 _ _ hq0 he (by omega) (by omega)), if_neg (by omega), decide_eq_false (b2 _ _ hr0 hd (by omega) (by omega))]

end Go.Proofs.Ytigmhomfadimnaa.Pure
