/- Plain laws of packets for PacketsGrow: numbers in bounds, one less than another, how many kinds came, differences of powers. -/
import Derived.Test.YtigmhomfadimnaaQMExact
import Derived.Test.YtigmhomfadimnaaQXL
import Derived.Test.YtigmhomfadimnaaQXSL
import Derived.Test.YtigmhomfadimnaaQXpacketsKinds
set_option linter.unusedVariables false
set_option linter.unusedSimpArgs false
namespace Go.Proofs.Ytigmhomfadimnaa.Pure
open Go.RowKit Go.Proofs.Ytigmhomfadimnaa.X Go.Proofs.YtigmhomfadimnaaW.PrintWords Go.Proofs.YtigmhomfadimnaaW.PrintLast Go.Proofs.YtigmhomfadimnaaW.PrintMore

theorem right_ok (S D b : Int) (hD : 0 < D) (hb : 0 ≤ b) (hb2 : b < 1000000) (h0 : 0 ≤ S) (h1 : S ≤ b * D) : comfitlaw04_right.f (fr (Rat.divInt S D)).1 (fr (Rat.divInt S D)).2 b = some true := by
  obtain ⟨c, hc, eD, eS⟩ := divInt_parts S D hD
  have hq := (Rat.divInt S D).den_pos
  unfold fr
  simp only []
  generalize Rat.divInt S D = q at *
  have hn : 0 ≤ q.num := by
    rcases Int.lt_or_le q.num 0 with h | h
    · have := Int.mul_neg_of_neg_of_pos h hc; omega
    · exact h
  have hd : 0 < (q.den : Int) := by omega
  have hle : q.num ≤ b * q.den := by
    refine Int.le_of_mul_le_mul_right ?_ hc
    rw [← eS, Int.mul_assoc, ← eD]
    exact h1
  have hdm := Int.mul_tdiv_add_tmod q.num q.den
  have hm0 := Int.tmod_nonneg (q.den : Int) hn
  have ht : Int.tdiv q.num q.den ≤ b := by
    rw [Int.tdiv_eq_ediv_of_nonneg hn]
    exact Int.ediv_le_of_le_mul hd (by rw [Int.mul_comm] at hle; rwa [Int.mul_comm])
  have ht0 : 0 ≤ Int.tdiv q.num q.den := Int.tdiv_nonneg hn (by omega)
  unfold comfitlaw04_right.f
  rw [if_pos (by omega), if_pos (by omega), if_neg (by omega), w_in (by omega) (by omega), if_pos ht]
  by_cases hlt : Int.tdiv q.num q.den < b
  · rw [if_pos hlt]
  · rw [if_neg hlt]
    have e : Int.tdiv q.num q.den = b := by omega
    rw [e, Int.mul_comm] at hdm
    have : Int.tmod q.num q.den = 0 := by omega
    rw [this]
    rfl
theorem less_go : ∀ (n : Nat) (a b c d : Int), 0 ≤ a → 0 < b → 0 ≤ c → 0 < d → a < 9223372036854775808 → c < 9223372036854775808 → b < 9223372036854775808 → d < 9223372036854775808 → b.natAbs + d.natAbs ≤ n → Ev (fun k => comfitref04_Less.l0 k a b c d) (decide (a * d < c * b)) := by
  intro n
  induction n with
  | zero => intro a b c d _ hb _ _ _ _ _ _ h; omega
  | succ n ih =>
    intro a b c d ha hb hc hd ha2 hc2 hb2 hd2 hn
    have e1 := Int.mul_tdiv_add_tmod a b
    have e2 := Int.mul_tdiv_add_tmod c d
    have p1 := Int.tmod_nonneg b ha
    have p2 := Int.tmod_nonneg d hc
    have q1 := Int.tmod_lt_of_pos a hb
    have q2 := Int.tmod_lt_of_pos c hd
    have w1 := tdiv_w a b (by omega) ha2
    have w2 := tdiv_w c d (by omega) hc2
    generalize hra : Int.tmod a b = ra at *
    generalize hrc : Int.tmod c d = rc at *
    generalize hta : Int.tdiv a b = ta at *
    generalize htc : Int.tdiv c d = tc at *
    by_cases ht : ta = tc
    · subst ht
      have hiff : a * d < c * b ↔ ra * d < rc * b := by
        rw [← e1, ← e2]
        have : (b * ta + ra) * d - (d * ta + rc) * b = ra * d - rc * b := by grind
        omega
      by_cases h1 : rc = 0
      · refine Ev.succ (g := fun _ => some false) (Ev.const ?_) (fun k => by rw [comfitref04_Less.l0, if_neg (by omega), if_neg (by omega), hta, htc, if_pos (by rw [w1]), hrc, if_pos h1])
        congr 1
        rw [eq_comm, decide_eq_false_iff_not, hiff, h1]
        have := Int.mul_nonneg p1 (Int.le_of_lt hd)
        omega
      · by_cases h2 : ra = 0
        · refine Ev.succ (g := fun _ => some true) (Ev.const ?_) (fun k => by rw [comfitref04_Less.l0, if_neg (by omega), if_neg (by omega), hta, htc, if_pos (by rw [w1]), hrc, hra, if_neg h1, if_pos h2])
          congr 1
          rw [eq_comm, decide_eq_true_eq, hiff, h2]
          have := Int.mul_pos (show 0 < rc by omega) hb
          omega
        · have hrec := ih d rc b ra (by omega) (by omega) (by omega) (by omega)
          refine Ev.succ ((hrec hd2 hb2 (by omega) (by omega) (by omega)).cast ?_) (fun k => by rw [comfitref04_Less.l0, if_neg (by omega), if_neg (by omega), hta, htc, if_pos (by rw [w1]), hrc, hra, if_neg h1, if_neg h2])
          rw [decide_eq_decide, hiff, Int.mul_comm d ra, Int.mul_comm b rc]
    · refine Ev.succ (g := fun _ => some (decide (ta < tc))) (Ev.const ?_) (fun k => by rw [comfitref04_Less.l0, if_neg (by omega), if_neg (by omega), hta, htc, if_neg (by rw [w1, w2]; exact ht), w1, w2])
      congr 1
      rw [decide_eq_decide, ← e1, ← e2]
      have hx : (b * ta + ra) * d - (d * tc + rc) * b = b * d * (ta - tc) + ra * d - rc * b := by grind
      have hbd := Int.mul_pos hb hd
      have m1 : ra * d < b * d := Int.mul_lt_mul_of_pos_right q1 hd
      have m2 : rc * b < d * b := Int.mul_lt_mul_of_pos_right q2 hb
      have m3 := Int.mul_nonneg p1 (Int.le_of_lt hd)
      have m4 := Int.mul_nonneg p2 (Int.le_of_lt hb)
      rw [Int.mul_comm d b] at m2
      constructor
      · intro h
        have : b * d * (ta - tc) ≤ b * d * (-1) := Int.mul_le_mul_of_nonneg_left (by omega) (by omega)
        omega
      · intro h
        rcases Int.lt_or_le ta tc with h' | h'
        · exact h'
        · have : b * d * 1 ≤ b * d * (ta - tc) := Int.mul_le_mul_of_nonneg_left (by omega) (by omega)
          omega

theorem Less_ev (S T D E : Int) (hD : 0 < D) (hE : 0 < E) (hS : 0 ≤ S) (hT : 0 ≤ T) (hS2 : S < 9223372036854775808) (hT2 : T < 9223372036854775808) (hD2 : D < 9223372036854775808) (hE2 : E < 9223372036854775808) :
    Ev (fun k => comfitref04_Less.f k (fr (Rat.divInt S D)).1 (fr (Rat.divInt S D)).2 (fr (Rat.divInt T E)).1 (fr (Rat.divInt T E)).2) (decide (S * E < T * D)) := by
  obtain ⟨c, hc, eD, eS⟩ := divInt_parts S D hD
  obtain ⟨c', hc', eE, eT⟩ := divInt_parts T E hE
  have hq := (Rat.divInt S D).den_pos
  have hr := (Rat.divInt T E).den_pos
  unfold fr comfitref04_Less.f
  simp only []
  generalize Rat.divInt S D = q at *
  generalize Rat.divInt T E = r at *
  have hn : 0 ≤ q.num := by
    rcases Int.lt_or_le q.num 0 with h | h
    · have := Int.mul_neg_of_neg_of_pos h hc; omega
    · exact h
  have hm : 0 ≤ r.num := by
    rcases Int.lt_or_le r.num 0 with h | h
    · have := Int.mul_neg_of_neg_of_pos h hc'; omega
    · exact h
  have b1 := le_mul_pos q.num c hc
  have b2 := le_mul_pos r.num c' hc'
  have b3 := le_mul_pos (q.den : Int) c hc
  have b4 := le_mul_pos (r.den : Int) c' hc'
  rw [← eS] at b1
  rw [← eT] at b2
  rw [← eD] at b3
  rw [← eE] at b4
  refine (less_go _ q.num q.den r.num r.den hn (by omega) hm (by omega) (by omega) (by omega) (by omega) (by omega) (Nat.le_refl _)).cast ?_
  rw [decide_eq_decide]
  have hcc := Int.mul_pos hc hc'
  have x1 : S * E = (q.num * r.den) * (c * c') := by rw [eS, eE]; grind
  have x2 : T * D = (r.num * q.den) * (c * c') := by rw [eT, eD]; grind
  rw [x1, x2]
  exact (Int.mul_lt_mul_right hcc).symm
/-- The ways of the kinds from i on, together. -/
def ks (l : List Int) (n : Nat) : Nat → Nat → Int
  | _, 0 => 0
  | i, d + 1 => dn l (2 ^ i) n + ks l n (i + 1) d
theorem pow_lt_pow (i n : Nat) (h : i < n) : (2 : Int) ^ i < 2 ^ n := by
  have := Nat.pow_lt_pow_right (a := 2) (by omega) h
  exact_mod_cast this
theorem ks_bound (l : List Int) (h : okW l = true) (n : Nat) (hn : n ≤ 8) : ∀ (d i : Nat), i + d = l.length → -(d * 4627325525704704) ≤ ks l n i d ∧ ks l n i d ≤ d * 4627325525704704 := by
  intro d
  induction d with
  | zero => intro i _; simp [ks]
  | succ d ih =>
    intro i hi
    have h1 := ih (i + 1) (by omega)
    have h2 := dn_bound l h (2 ^ i) n hn (Int.pow_nonneg (by omega)) (pow_lt_pow i l.length (by omega))
    rw [ks]
    push_cast
    omega
theorem kinds_go (l : List Int) (h : okW l = true) (n : Int) (hn0 : 0 ≤ n) (hn : n ≤ 8) (v : Int × Int × Int) : ∀ (d i : Nat), i + d = l.length → ∀ S : Int,
    Ev (fun k => (packets_weights_all.f l).bind fun t353 => (packets_weights_of.f k l t353).bind fun t354 => (packets_power.f k t354 n).bind fun t355 => (packets_frac.f k (wrap64 (S + ks l n.toNat i d)) t355).bind fun bt356 => some (bt356.1, bt356.2, 0)) v →
    Ev (fun k => packets_Kinds.l0 k n l (wrap64 S) (l.length : Int) (i : Int)) v := by
  have hk := (okW_iff l).1 h
  intro d
  induction d with
  | zero =>
    intro i hi S hv
    refine Ev.succ hv (fun k => ?_)
    rw [packets_Kinds.l0, if_neg (by omega)]
    simp [ks]
  | succ d ih =>
    intro i hi S hv
    refine Ev.succ (g := fun k => (packets_weights_done.f k l (2 ^ i) n).bind fun t352 => packets_Kinds.l0 k n l (wrap64 (S + t352)) (l.length : Int) ((i + 1 : Nat) : Int)) (Ev.bind (done_ev l h (2 ^ i) n hn0 hn (Int.pow_nonneg (by omega)) (pow_lt_pow i l.length (by omega))) (ih (i + 1) (by omega) _ ?_)) (fun k => ?_)
    · rw [ks, ← Int.add_assoc] at hv
      exact hv
    · rw [packets_Kinds.l0, if_pos (by omega), if_pos (by omega), shl_ok i (by omega), w_in (n := (i : Int) + 1) (by omega) (by omega)]
      simp only [w_addl]
      push_cast
      rfl
theorem Kinds_ev (l : List Int) (h : okW l = true) (n : Int) (hn0 : 0 ≤ n) (hn : n ≤ 8) : Ev (fun k => packets_Kinds.f k l n) ((fr (Rat.divInt (ks l n.toNat 0 l.length) (tot l ^ n.toNat))).1, (fr (Rat.divInt (ks l n.toNat 0 l.length) (tot l ^ n.toNat))).2, 0) := by
  have hk := (okW_iff l).1 h
  have hl := pow_le l.length hk.2.1
  have ht := tot_bound l h
  have hp := pow_bound (tot l) (by omega) (by omega) n.toNat (by omega)
  have hpp : 0 < tot l ^ n.toNat := Int.pow_pos (by omega)
  have hb := ks_bound l h n.toNat (by omega) l.length 0 (by omega)
  unfold packets_Kinds.f
  refine Ev.bind (valid_ev l) ?_
  refine Ev.ifPos h ?_
  have hc : packets_isCount.f n = some true := by rw [packets_isCount.f, if_pos hn0, decide_eq_true hn]
  rw [hc]
  simp only [Option.bind_some, Bool.not_true]
  refine Ev.succ (g := fun k => packets_Kinds.l0 k n l 0 (l.length : Int) 0) ?_ (fun k => by rw [packets_Kinds.j0, if_neg (by simp)])
  have hgo := kinds_go l h n hn0 hn ((fr (Rat.divInt (ks l n.toNat 0 l.length) (tot l ^ n.toNat))).1, (fr (Rat.divInt (ks l n.toNat 0 l.length) (tot l ^ n.toNat))).2, 0) l.length 0 (by omega) 0 (by
    rw [all_ok l hk.2.1]
    simp only [Option.bind_some]
    refine Ev.bind (packets_of_ev l _ (by omega) (by omega) hk.2.1) ?_
    have e2 : wrap64 (wsum l (2 ^ l.length - 1)) = tot l := w_in (by unfold tot at ht; omega) (by unfold tot at ht; omega)
    rw [e2]
    refine Ev.bind (packets_power_ev _ n hn0 (by omega)) ?_
    have hlen : (l.length : Int) ≤ 6 := by have := hk.2.1; omega
    rw [Int.zero_add, w_in (n := ks l n.toNat 0 l.length) (by omega) (by omega), w_in (by omega) (by omega)]
    exact Ev.bind (packets_frac_ev _ _ hpp (by omega) (by omega) (by omega)) (Ev.const rfl))
  rw [w_zero] at hgo
  exact hgo
theorem ks_all (l : List Int) (h : okW l = true) (n : Nat) : ∀ (d i : Nat), i + d = l.length → 0 ≤ ks l n i d ∧ ks l n i d ≤ d * tot l ^ n ∧ tot l * ks l n i d ≤ n * ((l.drop i).sum * tot l ^ n) := by
  have hk := (okW_iff l).1 h
  have ht := tot_bound l h
  intro d
  induction d with
  | zero => intro i hi; rw [List.drop_of_length_le (by omega)]; simp [ks]
  | succ d ih =>
    intro i hi
    have h1 := ih (i + 1) (by omega)
    have h2 := dn_single_bound l h n i (by omega)
    have h3 := rd_ok l h i (by omega)
    have h4 := bern (tot l) (rd l i) (by omega) (rd_le_tot l h i (by omega)) n
    rw [← dn_single l n i (by omega) hk.2.1] at h4
    rw [ks, rd_drop l i (by omega), List.sum_cons]
    refine ⟨by omega, ?_, ?_⟩
    · push_cast
      rw [Int.add_mul]
      omega
    · rw [Int.mul_add, Int.add_mul, Int.mul_add]
      omega
theorem ks_le (l : List Int) (h : okW l = true) (n : Nat) : 0 ≤ ks l n 0 l.length ∧ ks l n 0 l.length ≤ l.length * tot l ^ n ∧ ks l n 0 l.length ≤ n * tot l ^ n := by
  have ht := tot_bound l h
  have := ks_all l h n l.length 0 (by omega)
  refine ⟨this.1, this.2.1, ?_⟩
  rw [List.drop_zero, ← wsum_all] at this
  refine Int.le_of_mul_le_mul_left (a := tot l) ?_ (by omega)
  rw [show tot l * (n * tot l ^ n) = n * (tot l * tot l ^ n) by grind]
  exact this.2.2
def PR : Nat → Int → List Int
  | 0, _ => [0]
  | n + 1, s => (PR n (s / 2)).flatMap fun q => if s % 2 = 1 then [2 * q + 1, 2 * q] else [2 * q]
theorem PR_dec : ∀ s : Fin 64, partsL (s.val : Int) = PR 6 (s.val : Int) := by decide +kernel
theorem sg_dec : ∀ q : Fin 32, sg (2 * (q.val : Int)) = sg q.val ∧ sg (2 * (q.val : Int) + 1) = - sg q.val := by decide +kernel
theorem PR_mem : ∀ (n : Nat) (s : Int), 0 ≤ s → ∀ p ∈ PR n s, 0 ≤ p ∧ p ≤ s := by
  intro n
  induction n with
  | zero => intro s h p hp; simp only [PR, List.mem_singleton] at hp; omega
  | succ n ih =>
    intro s h p hp
    simp only [PR, List.mem_flatMap] at hp
    obtain ⟨q, hq, hp⟩ := hp
    have := ih (s / 2) (by omega) q hq
    split at hp <;> simp at hp <;> omega
theorem PR_zero : ∀ n : Nat, PR n 0 = [0] := by
  intro n
  induction n with
  | zero => rfl
  | succ n ih => simp [PR, ih]
/-- Sums and products of numbers from 0 on and of the place itself. -/
inductive AM : (Int → Int) → Prop
  | const (c : Int) : 0 ≤ c → AM (fun _ => c)
  | var : AM (fun y => y)
  | add {f g : Int → Int} : AM f → AM g → AM (fun y => f y + g y)
  | mul {f g : Int → Int} : AM f → AM g → AM (fun y => f y * g y)
theorem AM.pow (n : Nat) : AM (fun y => y ^ n) := by
  induction n with
  | zero => simpa using AM.const 1 (by omega)
  | succ n ih =>
    have := AM.mul ih AM.var
    simpa [Int.pow_succ] using this
theorem AM.nonneg {f : Int → Int} (h : AM f) : ∀ y, 0 ≤ y → 0 ≤ f y := by
  induction h with
  | const c hc => exact fun _ _ => hc
  | var => exact fun y hy => hy
  | add _ _ h1 h2 => exact fun y hy => Int.add_nonneg (h1 y hy) (h2 y hy)
  | mul _ _ h1 h2 => exact fun y hy => Int.mul_nonneg (h1 y hy) (h2 y hy)
theorem AM.shift {f : Int → Int} (h : AM f) (x : Int) (hx : 0 ≤ x) : AM (fun y => f (x + y)) := by
  induction h with
  | const c hc => exact AM.const c hc
  | var => exact AM.add (AM.const x hx) AM.var
  | add _ _ h1 h2 => exact AM.add h1 h2
  | mul _ _ h1 h2 => exact AM.mul h1 h2
theorem AM.diff {f : Int → Int} (h : AM f) (x : Int) (hx : 0 ≤ x) : AM (fun y => f (x + y) - f y) := by
  induction h with
  | const c hc => simpa using AM.const 0 (by omega)
  | var =>
    have e : (fun y : Int => x + y - y) = fun _ => x := by funext y; omega
    rw [e]
    exact AM.const x hx
  | @add f g _ _ h1 h2 =>
    have e : (fun y : Int => f (x + y) + g (x + y) - (f y + g y)) = fun y => (f (x + y) - f y) + (g (x + y) - g y) := by funext y; omega
    rw [e]
    exact AM.add h1 h2
  | @mul f g hf hg h1 h2 =>
    have e : (fun y : Int => f (x + y) * g (x + y) - f y * g y) = fun y => (f (x + y) - f y) * g (x + y) + f y * (g (x + y) - g y) := by funext y; grind
    rw [e]
    exact AM.add (AM.mul h1 (AM.shift hg x hx)) (AM.mul hf h2)

def SUP : List Int → Int → (Int → Int) → Int
  | [], _, f => f 0
  | x :: l, s, f => if s % 2 = 1 then SUP l (s / 2) (fun y => f (x + y) - f y) else SUP l (s / 2) (fun y => f (x + y))
theorem SUP_nonneg : ∀ (l : List Int) (s : Int) (f : Int → Int), (∀ x ∈ l, 0 ≤ x) → AM f → 0 ≤ SUP l s f := by
  intro l
  induction l with
  | nil => intro s f _ hf; exact hf.nonneg 0 (by omega)
  | cons x l ih =>
    intro s f h hf
    have hx := h x (by simp)
    have hl := fun y hy => h y (List.mem_cons_of_mem x hy)
    rw [SUP]
    split
    · exact ih _ _ hl (hf.diff x hx)
    · exact ih _ _ hl (hf.shift x hx)
/-! ### The program's sums -/
theorem lsum_append (A B : List Int) (F : Int → Int) : lsum (A ++ B) F = lsum A F + lsum B F := by
  induction A with
  | nil => simp [lsum]
  | cons a A ih => rw [List.cons_append, lsum_cons, lsum_cons, ih]; omega
theorem lsum_flat (L : List Int) (k : Int → List Int) (F : Int → Int) : lsum (L.flatMap k) F = lsum L (fun q => lsum (k q) F) := by
  induction L with
  | nil => rfl
  | cons a L ih => rw [List.flatMap_cons, lsum_append, lsum_cons, ih]
theorem sg_two (q : Int) (h0 : 0 ≤ q) (h1 : q < 32) : sg (2 * q) = sg q ∧ sg (2 * q + 1) = - sg q := by
  obtain ⟨n, rfl⟩ := Int.eq_ofNat_of_zero_le h0
  exact sg_dec ⟨n, by omega⟩
theorem PR_SUP : ∀ (n : Nat) (l : List Int) (s : Int) (f : Int → Int), n ≤ 6 → l.length ≤ n → 0 ≤ s → s < 2 ^ l.length → lsum (PR n s) (fun p => sg p * f (tot l - wsum l p)) = SUP l s f := by
  intro n
  induction n with
  | zero =>
    intro l s f hn hl h0 h1
    obtain rfl : l = [] := List.eq_nil_of_length_eq_zero (by omega)
    have : s = 0 := by simp at h1; omega
    subst this
    simp [PR, lsum, SUP, wsum, tot, sg_zero]
  | succ n ih =>
    intro l s f hn hl h0 h1
    cases l with
    | nil =>
      have : s = 0 := by simp at h1; omega
      subst this
      rw [PR_zero]
      simp [lsum, SUP, wsum, tot, sg_zero]
    | cons x l =>
      simp only [List.length_cons] at hl
      rw [List.length_cons, Int.pow_succ] at h1
      have hlen5 : (2 : Int) ^ l.length ≤ 32 := by
        have : l.length = 0 ∨ l.length = 1 ∨ l.length = 2 ∨ l.length = 3 ∨ l.length = 4 ∨ l.length = 5 := by omega
        rcases this with h | h | h | h | h | h <;> rw [h] <;> decide
      have ht : tot (x :: l) = x + tot l := by rw [wsum_all, wsum_all, List.sum_cons]
      rw [PR, lsum_flat, SUP]
      have hd : ∀ t : Int, (2 * t) / 2 = t ∧ (2 * t) % 2 = 0 ∧ (2 * t + 1) / 2 = t ∧ (2 * t + 1) % 2 = 1 := fun t => by omega
      by_cases hs : s % 2 = 1
      · rw [if_pos hs, ← ih l (s / 2) _ (by omega) (by omega) (by omega) (by omega)]
        refine lsum_congr (fun q hq => ?_)
        have hm := PR_mem n (s / 2) (by omega) q hq
        obtain ⟨d1, d2, d3, d4⟩ := hd q
        obtain ⟨g1, g2⟩ := sg_two q (by omega) (by omega)
        rw [if_pos hs, lsum_cons, lsum_cons, lsum_nil, wsum, wsum, d1, d2, d3, d4, g1, g2, ht, Int.one_mul, Int.zero_mul, Int.zero_add]
        have e1 : x + tot l - (x + wsum l q) = tot l - wsum l q := by omega
        have e2 : x + tot l - wsum l q = x + (tot l - wsum l q) := by omega
        rw [e1, e2]
        grind
      · rw [if_neg hs, ← ih l (s / 2) _ (by omega) (by omega) (by omega) (by omega)]
        refine lsum_congr (fun q hq => ?_)
        have hm := PR_mem n (s / 2) (by omega) q hq
        obtain ⟨d1, d2, d3, d4⟩ := hd q
        obtain ⟨g1, g2⟩ := sg_two q (by omega) (by omega)
        rw [if_neg hs, lsum_cons, lsum_nil, wsum, d1, d2, g1, ht, Int.zero_mul, Int.zero_add, Int.add_zero]
        have e2 : x + tot l - wsum l q = x + (tot l - wsum l q) := by omega
        rw [e2]
theorem dn_SUP (l : List Int) (h : okW l = true) (s : Int) (n : Nat) (h0 : 0 ≤ s) (h1 : s < 2 ^ l.length) : dn l s n = SUP l s (fun y => y ^ n) := by
  have hk := (okW_iff l).1 h
  have hl := pow_le l.length hk.2.1
  have hPR : partsL s = PR 6 s := by
    obtain ⟨n, rfl⟩ := Int.eq_ofNat_of_zero_le h0
    exact PR_dec ⟨n, by omega⟩
  unfold dn
  rw [← PR_SUP 6 l s (fun y => y ^ n) (by omega) hk.2.1 h0 h1, ← hPR]

end Go.Proofs.Ytigmhomfadimnaa.Pure
