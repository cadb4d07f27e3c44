/- Plain laws of packets: the average number of packets until a set is there, as a rational number; it grows with the set, and less and less. -/
import Derived.Test.YtigmhomfadimnaaQMBase
import Derived.Test.YtigmhomfadimnaaQMBound
import Derived.Test.YtigmhomfadimnaaQHMean
set_option linter.unusedVariables false
set_option linter.unusedSimpArgs false
namespace Go.Proofs.Ytigmhomfadimnaa.Pure
open Go.RowKit Go.Proofs.Ytigmhomfadimnaa.X Go.Proofs.YtigmhomfadimnaaW.PrintWords Go.Proofs.YtigmhomfadimnaaW.PrintLast Go.Proofs.YtigmhomfadimnaaW.PrintMore

/-! Plain laws of packets: the average number of packets until a set is there, as a rational number. -/
/-! ### Every list has a good denominator -/
theorem sum_perm {l l' : List Nat} (h : l.Perm l') : l.sum = l'.sum := by
  induction h with
  | nil => rfl
  | cons x _ ih => simp [ih]
  | swap x y _ => simp; omega
  | trans _ _ h1 h2 => exact h1.trans h2
/-- Sorted from the greatest down. -/
def desc : List Nat → Prop
  | [] => True
  | [x] => True
  | x :: y :: l => y ≤ x ∧ desc (y :: l)
def headD (l : List Nat) : Nat := match l with | [] => 1 | x :: _ => x
theorem chk_at : ∀ ws : List Nat, desc ws → (∀ x ∈ ws, 1 ≤ x ∧ x ≤ 9) → ws.length ≤ 6 → chk (6 - ws.length) (headD ws) ws (sumsN ws) (Dw ws) ws.sum = true := by
  intro ws
  induction ws with
  | nil => intro _ _ _; exact chk_all
  | cons x ws ih =>
    intro hd hx hl
    simp only [List.length_cons] at hl
    have h := ih (by cases ws with | nil => trivial | cons y l => exact hd.2) (fun y hy => hx y (by simp [hy])) (by omega)
    obtain ⟨f, hf⟩ : ∃ f, 6 - ws.length = f + 1 := ⟨5 - ws.length, by omega⟩
    rw [hf] at h
    unfold chk at h
    simp only [Bool.and_eq_true, List.all_eq_true, List.mem_range] at h
    have hx1 := hx x (by simp)
    have h2 := h.2 x (by omega)
    have h3 : Nat.blt x (headD ws) = false := by
      rw [← Bool.not_eq_true, Nat.blt_eq]
      cases ws with
      | nil => simp [headD]; omega
      | cons y l => have := hd.1; simp [headD]; omega
    rw [h3, Bool.false_or] at h2
    have e1 : 6 - (x :: ws).length = f := by simp only [List.length_cons]; omega
    rw [e1]
    show chk f x (x :: ws) _ _ _ = true
    rw [List.sum_cons, Nat.add_comm x]
    exact h2
theorem desc_ins (x : Nat) : ∀ l : List Nat, desc l → ∃ l', l'.Perm (x :: l) ∧ desc l' ∧ (∀ y l2, l' = y :: l2 → y = x ∨ ∃ l3, l = y :: l3) := by
  intro l
  induction l with
  | nil => intro _; exact ⟨[x], List.Perm.refl _, trivial, fun y l2 h => by cases h; exact .inl rfl⟩
  | cons z l ih =>
    intro hd
    by_cases h : z ≤ x
    · exact ⟨x :: z :: l, List.Perm.refl _, ⟨h, hd⟩, fun y l2 h => by cases h; exact .inl rfl⟩
    · obtain ⟨l', hp, hd', hh⟩ := ih (by cases l with | nil => trivial | cons y l => exact hd.2)
      refine ⟨z :: l', (List.Perm.cons z hp).trans (List.Perm.swap _ _ _), ?_, fun y l2 h => by cases h; exact .inr ⟨l, rfl⟩⟩
      cases l' with
      | nil => trivial
      | cons y l2 =>
        refine ⟨?_, hd'⟩
        rcases hh y l2 rfl with rfl | ⟨l3, rfl⟩
        · omega
        · exact hd.1
theorem desc_of : ∀ l : List Nat, ∃ l', l'.Perm l ∧ desc l' := by
  intro l
  induction l with
  | nil => exact ⟨[], List.Perm.refl _, trivial⟩
  | cons x l ih =>
    obtain ⟨l', hp, hd⟩ := ih
    obtain ⟨l2, hp2, hd2, _⟩ := desc_ins x l' hd
    exact ⟨l2, hp2.trans (List.Perm.cons x hp), hd2⟩
theorem allp_at (p : List Nat → Bool) : ∀ (f : Nat) (rem acc l : List Nat), allp p f rem acc = true → l.Perm rem → l.length = f → p (l.reverse ++ acc) = true := by
  intro f
  induction f with
  | zero =>
    intro rem acc l h hp hl
    obtain rfl : l = [] := List.eq_nil_of_length_eq_zero hl
    exact h
  | succ f ih =>
    intro rem acc l h hp hl
    cases l with
    | nil => simp at hl
    | cons x l =>
      unfold allp at h
      rw [List.all_eq_true] at h
      have hx : x ∈ rem := hp.mem_iff.1 (by simp)
      have h2 := h x (by simpa using hx)
      have hp2 : l.Perm (rem.erase x) := by
        have := hp.erase x
        simpa using this
      have := ih _ _ l h2 hp2 (by simpa using hl)
      simpa using this
theorem good (l : List Nat) (h : ∀ x ∈ l, 1 ≤ x ∧ x ≤ 9) (hl : l.length ≤ 6) (A : Nat) (h0 : l.sum ≤ A) (h1 : A ≤ l.sum + 9 * (6 - l.length)) :
    ∃ D, 0 < D ∧ D < 1152921504606846976 ∧ (∀ y ∈ sumsN l, y = 0 ∨ y ∣ D) ∧ okrun D A 9223372036854775808 (dscS l) = true := by
  obtain ⟨ws, hp, hd⟩ := desc_of l
  have hws : ∀ x ∈ ws, 1 ≤ x ∧ x ≤ 9 := fun x hx => h x (hp.mem_iff.1 hx)
  have hlen : ws.length = l.length := hp.length_eq
  have hsum : ws.sum = l.sum := sum_perm hp
  have hc := chk_at ws hd hws (by omega)
  have hdiv : ∀ y ∈ sumsN l, y = 0 ∨ y ∣ Dw ws := fun y hy => Dw_dvd ws y ((sumsN_perm hp).mem_iff.2 hy)
  have hpos := Dw_pos ws (fun x hx => (hws x hx).1)
  have hcr : csum (Dw ws) (ws.sum + 9 * (6 - ws.length)) (sumsN ws) < 9223372036854775808 → okrun (Dw ws) A 9223372036854775808 (dscS l) = true := by
    intro hlt
    have h2 : csum (Dw ws) A ((dscS l).map Prod.snd) < 9223372036854775808 := by
      rw [dscS_snd, ← csum_perm _ _ (sumsN_perm hp)]
      exact Nat.lt_of_le_of_lt (csum_mono _ (by omega) _) hlt
    exact okrun_crude _ _ _ _ (by omega) (by omega)
  cases hf : 6 - ws.length with
  | succ f =>
    rw [hf] at hc hcr
    unfold chk at hc
    simp only [Bool.and_eq_true, Nat.blt_eq] at hc
    exact ⟨Dw ws, hpos, hc.1.2, hdiv, hcr hc.1.1⟩
  | zero =>
    rw [hf] at hc hcr
    unfold chk at hc
    simp only [Bool.and_eq_true, Bool.or_eq_true, Nat.blt_eq] at hc
    rcases hc.1 with hc1 | hc1
    · exact ⟨Dw ws, hpos, hc.2, hdiv, hcr (by simpa using hc1)⟩
    · have hmem : ws ∈ odd15 := by simpa using hc1
      have ho := odd15_all
      rw [List.all_eq_true] at ho
      have h3 := allp_at _ 6 ws [] l.reverse (ho ws hmem) (l.reverse_perm.trans hp.symm) (by rw [List.length_reverse]; omega)
      simp only [List.reverse_reverse, List.append_nil] at h3
      refine ⟨Dw ws, hpos, hc.2, hdiv, ?_⟩
      rw [show A = ws.sum by omega]
      exact h3

/-! ### The parts of a set, as the parts of a list -/
/-- The weights of a set. -/
def sub : List Int → Int → List Nat
  | [], _ => []
  | x :: l, s => if s % 2 = 1 then x.toNat :: sub l (s / 2) else sub l (s / 2)
def PR : Nat → Int → List Int
  | 0, _ => [0]
  | n + 1, s => (PR n (s / 2)).flatMap fun q => if s % 2 = 1 then [2 * q + 1, 2 * q] else [2 * q]
theorem PR_dec : ∀ s : Fin 64, partsL (s.val : Int) = PR 6 (s.val : Int) := by decide +kernel
theorem sg_dec : ∀ q : Fin 32, sg (2 * (q.val : Int)) = sg q.val ∧ sg (2 * (q.val : Int) + 1) = - sg q.val := by decide +kernel
theorem PR_mem : ∀ (n : Nat) (s : Int), 0 ≤ s → ∀ p ∈ PR n s, 0 ≤ p ∧ p ≤ s := by
  intro n
  induction n with
  | zero => intro s h p hp; simp only [PR, List.mem_singleton] at hp; omega
  | succ n ih =>
    intro s h p hp
    simp only [PR, List.mem_flatMap] at hp
    obtain ⟨q, hq, hp⟩ := hp
    have := ih (s / 2) (by omega) q hq
    split at hp <;> simp at hp <;> omega
theorem PR_zero : ∀ n : Nat, PR n 0 = [0] := by
  intro n
  induction n with
  | zero => rfl
  | succ n ih => simp [PR, ih]
/-- A part's sign and weights. -/
def sw (l : List Int) (p : Int) : Bool × Nat := (decide (sg p = 1), (wsum l p).toNat)
theorem wsum_nonneg : ∀ (l : List Int), (∀ x ∈ l, 1 ≤ x ∧ x ≤ 9) → ∀ p, 0 ≤ wsum l p := fun l h p => (wsum_bound l h p).1
theorem PR_dscS : ∀ (n : Nat) (l : List Int) (s : Int), n ≤ 6 → l.length ≤ n → (∀ x ∈ l, 1 ≤ x ∧ x ≤ 9) → 0 ≤ s → s < 2 ^ l.length → (PR n s).map (sw l) = dscS (sub l s) := by
  intro n
  induction n with
  | zero =>
    intro l s hn hl hx h0 h1
    obtain rfl : l = [] := List.eq_nil_of_length_eq_zero (by omega)
    have : s = 0 := by simp at h1; omega
    subst this
    decide
  | succ n ih =>
    intro l s hn hl hx h0 h1
    cases l with
    | nil =>
      have : s = 0 := by simp at h1; omega
      subst this
      rw [PR_zero]
      decide
    | cons x l =>
      simp only [List.length_cons] at hl
      rw [List.length_cons, Int.pow_succ] at h1
      have hpos := pow_le l.length (by omega)
      have h2 := ih l (s / 2) (by omega) (by omega) (fun y hy => hx y (by simp [hy])) (by omega) (by omega)
      have hx1 := hx x (by simp)
      have hlen5 : (2 : Int) ^ l.length ≤ 32 := by
        have : l.length = 0 ∨ l.length = 1 ∨ l.length = 2 ∨ l.length = 3 ∨ l.length = 4 ∨ l.length = 5 := by omega
        rcases this with h | h | h | h | h | h <;> rw [h] <;> decide
      have hev : ∀ q ∈ PR n (s / 2), sw (x :: l) (2 * q) = sw l q ∧ sw (x :: l) (2 * q + 1) = (!(sw l q).1, (sw l q).2 + x.toNat) := by
        intro q hq
        have hq2 := PR_mem n (s / 2) (by omega) q hq
        obtain ⟨m, rfl⟩ := Int.eq_ofNat_of_zero_le hq2.1
        have hs := sg_dec ⟨m, by omega⟩
        have hw := wsum_nonneg l (fun y hy => hx y (by simp [hy])) m
        refine ⟨?_, ?_⟩
        · unfold sw
          rw [hs.1, wsum]
          have e1 : (2 * (m : Int)) % 2 = 0 := by omega
          have e2 : (2 * (m : Int)) / 2 = m := by omega
          rw [e1, e2]
          simp
        · unfold sw
          rw [hs.2, wsum]
          have e1 : (2 * (m : Int) + 1) % 2 = 1 := by omega
          have e2 : (2 * (m : Int) + 1) / 2 = m := by omega
          rw [e1, e2]
          refine Prod.ext ?_ ?_
          · rcases sg_cases (m : Int) with h | h <;> simp [h]
          · show (1 * x + wsum l m).toNat = (wsum l m).toNat + x.toNat
            omega
      rw [PR, List.map_flatMap]
      by_cases hb : s % 2 = 1
      · rw [sub, if_pos hb, dscS, ← h2, List.flatMap_map]
        clear h2 ih
        generalize PR n (s / 2) = Q at hev ⊢
        induction Q with
        | nil => rfl
        | cons q L ihL =>
          rw [List.flatMap_cons, List.flatMap_cons, ihL (fun q hq => hev q (by simp [hq])), if_pos hb]
          simp only [List.map_cons, List.map_nil, (hev q (by simp)).1, (hev q (by simp)).2]
      · rw [sub, if_neg hb, ← h2]
        clear h2 ih
        generalize PR n (s / 2) = Q at hev ⊢
        induction Q with
        | nil => rfl
        | cons q L ihL =>
          rw [List.flatMap_cons, List.map_cons, ihL (fun q hq => hev q (by simp [hq])), if_neg hb]
          simp only [List.map_cons, List.map_nil, (hev q (by simp)).1]
          rfl

/-! ### The run, over one denominator -/
def rs (A : Nat) : List (Bool × Nat) → Rat
  | [] => 0
  | (b, y) :: t => (if b then -((A : Rat) / (y : Rat)) else (A : Rat) / (y : Rat)) + rs A t
theorem divInt_sum (a b d : Int) : Rat.divInt a d + Rat.divInt b d = Rat.divInt (a + b) d := by
  rw [Rat.divInt_eq_div, Rat.divInt_eq_div, Rat.divInt_eq_div, Rat.intCast_add]
  grind
theorem wsum_pos : ∀ (l : List Int), (∀ x ∈ l, 1 ≤ x ∧ x ≤ 9) → ∀ p, 0 < p → p < 2 ^ l.length → 0 < wsum l p := by
  intro l
  induction l with
  | nil => intro _ p h0 h1; simp at h1; omega
  | cons x l ih =>
    intro h p h0 h1
    rw [List.length_cons, Int.pow_succ] at h1
    have hx := h x (by simp)
    have hn := wsum_nonneg l (fun y hy => h y (by simp [hy])) (p / 2)
    rw [wsum]
    by_cases hp : 0 < p / 2
    · have := ih (fun y hy => h y (by simp [hy])) (p / 2) hp (by omega)
      have hc : p % 2 = 0 ∨ p % 2 = 1 := by omega
      rcases hc with a | a <;> rw [a] <;> omega
    · have e : p % 2 = 1 := by omega
      rw [e]
      omega
theorem term_eq (A y D : Nat) (hy : 0 < y) (hd : y ∣ D) (hD : 0 < D) (sgn : Int) : Rat.divInt (sgn * A) y = Rat.divInt (sgn * (A * (D / y) : Nat)) D := by
  obtain ⟨c, rfl⟩ := hd
  have hc : 0 < c := Nat.pos_of_ne_zero (by rintro rfl; omega)
  rw [Nat.mul_div_cancel_left c hy]
  rw [← divInt_cancel (sgn * A) y c (by omega) (by omega)]
  congr 1
  push_cast
  grind
theorem mean_go (l : List Int) (h : okW l = true) (D : Nat) (hD : 0 < D) (hD2 : D < 9223372036854775808) : ∀ (L : List Int) (N : Int) (M : Nat), (M : Int) = N + 9223372036854775808 → 0 < M → M < 18446744073709551616 → okrun D (tot l).toNat M (L.map (sw l)) = true →
    (∀ p ∈ L, 0 ≤ p ∧ p < 2 ^ l.length) → (∀ p ∈ L, (wsum l p).toNat = 0 ∨ (wsum l p).toNat ∣ D) →
    Ev (fun k => packets_Mean.go k l L (fr (Rat.divInt N D)).1 (fr (Rat.divInt N D)).2) (fr (Rat.divInt N D + rs (tot l).toNat (L.map (sw l)))) := by
  have hk := (okW_iff l).1 h
  have hl := pow_le l.length hk.2.1
  have ht := tot_bound l h
  intro L
  induction L with
  | nil =>
    intro N M _ _ _ _ _ _
    refine Ev.cast (Ev.const (o := some ((fr (Rat.divInt N D)).1, (fr (Rat.divInt N D)).2)) rfl) ?_
    rw [List.map_nil, rs, Rat.add_zero]
  | cons p L ih =>
    intro N M hM hM0 hM1 hr hp hd
    have hpp := hp p (by simp)
    have hdp := hd p (by simp)
    have hsw : (L.map (sw l)) = L.map (sw l) := rfl
    rw [List.map_cons] at hr ⊢
    unfold packets_Mean.go packets_Mean.step
    by_cases h0 : 0 < p
    · have hw := wsum_pos l hk.2.2 p h0 hpp.2
      have hwb := wsum_bound l hk.2.2 p
      have hlen : (l.length : Int) ≤ 6 := by have := hk.2.1; omega
      have hdv : (wsum l p).toNat ∣ D := by rcases hdp with h | h <;> first | omega | exact h
      have hA : ((tot l).toNat : Int) = tot l := by omega
      have hW : ((wsum l p).toNat : Int) = wsum l p := by omega
      -- the run's step
      obtain ⟨N', M', hM', hM0', hM1', hr', hN'⟩ : ∃ (N' : Int) (M' : Nat), (M' : Int) = N' + 9223372036854775808 ∧ 0 < M' ∧ M' < 18446744073709551616 ∧ okrun D (tot l).toNat M' (L.map (sw l)) = true ∧ N' = N + (- sg p) * (((tot l).toNat * (D / (wsum l p).toNat) : Nat) : Int) := by
        unfold sw okrun at hr
        rcases sg_cases p with hs | hs
        · simp only [hs, decide_true, cond_true] at hr
          cases hb : Nat.blt ((tot l).toNat * (D / (wsum l p).toNat)) M with
          | false => rw [hb] at hr; cases hr
          | true =>
            rw [hb] at hr
            rw [Nat.blt_eq] at hb
            exact ⟨N - (((tot l).toNat * (D / (wsum l p).toNat) : Nat) : Int), M - (tot l).toNat * (D / (wsum l p).toNat), by omega, by omega, by omega, hr, by rw [hs]; omega⟩
        · simp only [hs, show decide ((-1 : Int) = 1) = false from by decide, cond_false] at hr
          cases hb : Nat.blt (M + (tot l).toNat * (D / (wsum l p).toNat)) 18446744073709551616 with
          | false => rw [hb] at hr; cases hr
          | true =>
            rw [hb] at hr
            rw [Nat.blt_eq] at hb
            exact ⟨N + (((tot l).toNat * (D / (wsum l p).toNat) : Nat) : Int), M + (tot l).toNat * (D / (wsum l p).toNat), by omega, by omega, by omega, hr, by rw [hs]; omega⟩
      have hterm := term_eq (tot l).toNat (wsum l p).toNat D (by omega) hdv hD (- sg p)
      rw [hA, hW] at hterm
      have hrec := ih N' M' hM' hM0' hM1' hr' (fun q hq => hp q (by simp [hq])) (fun q hq => hd q (by simp [hq]))
      refine Ev.bind (v := fr (Rat.divInt N' D)) (Ev.ifPos h0 ?_) (hrec.cast ?_)
      · refine Ev.bind (packets_sign_ev p hpp.1 (by omega)) ?_
        rw [all_ok l hk.2.1]
        simp only [Option.bind_some]
        refine Ev.bind (packets_of_ev l _ (by omega) (by omega) hk.2.1) ?_
        have e2 : wrap64 (wsum l (2 ^ l.length - 1)) = tot l := w_in (by unfold tot at ht; omega) (by unfold tot at ht; omega)
        rw [e2]
        refine Ev.bind (packets_of_ev l p hpp.1 (by omega) hk.2.1) ?_
        rw [w_in (n := wsum l p) (by omega) (by omega)]
        have e3 : wrap64 (wrap64 (-sg p) * tot l) = (-sg p) * tot l := by
          rw [w_mull]
          rcases sg_cases p with e | e <;> rw [e] <;> exact w_in (by omega) (by omega)
        rw [e3]
        refine Ev.bind (packets_frac_ev ((-sg p) * tot l) (wsum l p) hw (by omega) (by rcases sg_cases p with e | e <;> rw [e] <;> omega) (by rcases sg_cases p with e | e <;> rw [e] <;> omega)) ?_
        rw [hterm]
        have := packets_plus_ev N ((-sg p) * (((tot l).toNat * (D / (wsum l p).toNat) : Nat) : Int)) D (by omega) (by omega) (by omega) (by omega)
        rw [← hN'] at this
        exact this
      · have hAr : ((tot l : Int) : Rat) = ((tot l).toNat : Rat) := by rw [← Rat.intCast_natCast, hA]
        have hWr : ((wsum l p : Int) : Rat) = ((wsum l p).toNat : Rat) := by rw [← Rat.intCast_natCast, hW]
        have key : Rat.divInt (-sg p * tot l) (wsum l p) = if (sw l p).1 = true then -(((tot l).toNat : Rat) / ((sw l p).2 : Rat)) else ((tot l).toNat : Rat) / ((sw l p).2 : Rat) := by
          rw [Rat.divInt_eq_div, Rat.intCast_mul, hAr, hWr]
          unfold sw
          generalize ((tot l).toNat : Rat) = u
          generalize ((wsum l p).toNat : Rat) = v
          rcases sg_cases p with e | e
          · rw [e]
            simp only [decide_true, if_true]
            show ((-1 : Int) : Rat) * u / v = _
            grind
          · rw [e]
            simp only [show decide ((-1 : Int) = 1) = false from by decide, if_false, Bool.false_eq_true]
            show ((1 : Int) : Rat) * u / v = _
            grind
        rw [hN', ← divInt_sum, ← hterm, key]
        show fr (_ + _ + _) = fr (_ + (_ + _))
        rw [Rat.add_assoc]
        rfl
    · have e0 : p = 0 := by omega
      subst e0
      have hsw0 : sw l 0 = (true, 0) := by
        unfold sw
        rw [wsum_zero, sg_zero]
        rfl
      rw [hsw0] at hr ⊢
      unfold okrun at hr
      simp only [Nat.div_zero, Nat.mul_zero, Nat.sub_zero, cond_true] at hr
      have hb : Nat.blt 0 M = true := by rw [Nat.blt_eq]; omega
      rw [hb] at hr
      have hrec := ih N M hM hM0 hM1 hr (fun q hq => hp q (by simp [hq])) (fun q hq => hd q (by simp [hq]))
      refine Ev.bind (Ev.ifNeg h0 (Ev.const rfl)) (hrec.cast ?_)
      have ez : rs (tot l).toNat ((true, 0) :: L.map (sw l)) = rs (tot l).toNat (L.map (sw l)) := by
        rw [rs]
        simp only [if_true]
        show -(((tot l).toNat : Rat) / ((0 : Nat) : Rat)) + _ = _
        grind
      rw [ez]
theorem sub_range : ∀ (l : List Int) (s : Int), (∀ x ∈ l, 1 ≤ x ∧ x ≤ 9) → (∀ x ∈ sub l s, 1 ≤ x ∧ x ≤ 9) ∧ (sub l s).length ≤ l.length ∧ ((sub l s).sum : Int) ≤ l.sum ∧ l.sum ≤ (sub l s).sum + 9 * (l.length - (sub l s).length) := by
  intro l
  induction l with
  | nil => intro s _; simp [sub]
  | cons x l ih =>
    intro s h
    have hx := h x (by simp)
    have h2 := ih (s / 2) (fun y hy => h y (by simp [hy]))
    rw [sub]
    split
    · simp only [List.mem_cons, forall_eq_or_imp, List.length_cons, List.sum_cons]
      push_cast
      refine ⟨⟨by omega, h2.1⟩, by omega, by omega, by omega⟩
    · simp only [List.length_cons, List.sum_cons]
      push_cast
      refine ⟨h2.1, by omega, by omega, by omega⟩
/-- The average of a set, as a rational number. -/
def meanR (l : List Int) (s : Int) : Rat := rs (tot l).toNat (dscS (sub l s))
theorem Mean_ev (l : List Int) (s : Int) (hs : okS l s = true) : Ev (fun k => packets_Mean.f k l s) ((fr (meanR l s)).1, (fr (meanR l s)).2, 0) := by
  obtain ⟨h, h0, h1⟩ := (okS_iff l s).1 hs
  have hk := (okW_iff l).1 h
  have hl := pow_le l.length hk.2.1
  have ht := tot_bound l h
  have hr := sub_range l s hk.2.2
  have hlen : (l.length : Int) ≤ 6 := by have := hk.2.1; omega
  have hts := wsum_all l
  obtain ⟨D, hD, hD2, hdv, hok⟩ := good (sub l s) hr.1 (by omega) (tot l).toNat (by omega) (by omega)
  have hPR : partsL s = PR 6 s := by
    obtain ⟨n, rfl⟩ := Int.eq_ofNat_of_zero_le h0
    exact PR_dec ⟨n, by omega⟩
  have hmap : (partsL s).map (sw l) = dscS (sub l s) := by rw [hPR]; exact PR_dscS 6 l s (by omega) hk.2.1 hk.2.2 h0 h1
  have hgo := mean_go l h D hD (by omega) (partsL s) 0 9223372036854775808 (by omega) (by omega) (by omega) (by rw [hmap]; exact hok) (fun p hp => by have := parts_mem s h0 (by omega) p hp; omega) (fun p hp => hdv _ (by
    rw [← dscS_snd, ← hmap, List.map_map]
    exact List.mem_map.2 ⟨p, hp, rfl⟩))
  have e0 : fr (Rat.divInt 0 (D : Int)) = (0, 1) := by rw [Rat.zero_divInt]; rfl
  rw [e0, hmap, Rat.zero_divInt, Rat.zero_add] at hgo
  unfold packets_Mean.f packets_whole.f
  refine Ev.bind (isSet_ev l s) (Ev.ifPos hs ?_)
  exact Ev.bind hgo (Ev.const rfl)
theorem Mean_bad (l : List Int) (s : Int) (h : okS l s = false) : Ev (fun k => packets_Mean.f k l s) (0, 0, 2) := by
  unfold packets_Mean.f
  exact Ev.bind (isSet_ev l s) (Ev.ifNeg (by simp [h]) (Ev.const rfl))

/-! Plain laws of packets: the average number grows with the set, and less and less. -/
/-- The alternating sum over the parts of m, each with c more. -/
def ee (c : Rat) : List Nat → Rat
  | [] => 1 / c
  | x :: m => ee c m - ee (c + (x : Rat)) m
def mm : List Nat → Rat
  | [] => 0
  | x :: m => mm m + ee (x : Rat) m
def rsumN : List Nat → Rat
  | [] => 0
  | x :: m => (x : Rat) + rsumN m
/-- The sum of y times what is left without y, over the y of post. -/
def rr (c : Rat) : List Nat → List Nat → Rat
  | pre, [] => 0
  | pre, y :: post => (y : Rat) * ee c (pre ++ post) + rr c (pre ++ [y]) post
theorem rr_cons (c : Rat) (x : Nat) : ∀ (post pre : List Nat), rr c (x :: pre) post = rr c pre post - rr (c + (x : Rat)) pre post := by
  intro post
  induction post with
  | nil => intro pre; simp only [rr]; grind
  | cons y post ih =>
    intro pre
    have h := ih (pre ++ [y])
    simp only [rr, List.cons_append, ee]
    rw [h]
    grind
theorem ee_id : ∀ (m : List Nat) (c : Rat), 0 < c → (c + rsumN m) * ee c m = (if m = [] then 1 else 0) + rr c [] m := by
  intro m
  induction m with
  | nil =>
    intro c hc
    simp only [rsumN, ee, rr, if_true]
    have : c ≠ 0 := by intro h; rw [h] at hc; exact absurd hc (by decide)
    grind
  | cons x m ih =>
    intro c hc
    have hx : (0 : Rat) ≤ (x : Rat) := by exact_mod_cast Nat.zero_le x
    have h1 := ih c hc
    have h2 := ih (c + (x : Rat)) (by grind)
    rw [rr, List.nil_append, List.nil_append, rr_cons, ee, rsumN]
    simp only [List.cons_ne_nil, if_false]
    grind
theorem ee_nonneg : ∀ (n : Nat) (m : List Nat), m.length ≤ n → ∀ c : Rat, 0 < c → 0 ≤ ee c m := by
  intro n
  induction n with
  | zero =>
    intro m hm c hc
    obtain rfl : m = [] := List.eq_nil_of_length_eq_zero (by omega)
    rw [ee]
    exact Rat.le_of_lt (by rw [Rat.div_def, Rat.one_mul]; exact Rat.inv_pos.2 hc)
  | succ n ih =>
    intro m hm c hc
    have hrr : ∀ (post pre : List Nat), pre.length + post.length ≤ n + 1 → 0 ≤ rr c pre post := by
      intro post
      induction post with
      | nil => intro pre _; exact Rat.le_refl
      | cons y post ihp =>
        intro pre hl
        simp only [List.length_cons] at hl
        have h1 := ih (pre ++ post) (by rw [List.length_append]; omega) c hc
        have h2 := ihp (pre ++ [y]) (by rw [List.length_append, List.length_singleton]; omega)
        have hy : (0 : Rat) ≤ (y : Rat) := by exact_mod_cast Nat.zero_le y
        rw [rr]
        exact Rat.add_nonneg (Rat.mul_nonneg hy h1) h2
    have h := ee_id m c hc
    have h3 := hrr m [] (by simpa using hm)
    have hs : 0 ≤ rsumN m := by
      clear h h3 hm
      induction m with
      | nil => exact Rat.le_refl
      | cons y m ihm => exact Rat.add_nonneg (by exact_mod_cast Nat.zero_le y) ihm
    have hpos : 0 < c + rsumN m := by grind
    have hr : 0 ≤ (c + rsumN m) * ee c m := by
      rw [h]
      refine Rat.add_nonneg ?_ h3
      split <;> decide
    rcases (Rat.le_total : (0 : Rat) ≤ ee c m ∨ ee c m ≤ 0) with h4 | h4
    · exact h4
    · have h5 : (c + rsumN m) * ee c m = 0 := by
        refine Rat.le_antisymm ?_ hr
        have := Rat.mul_le_mul_of_nonneg_left h4 (Rat.le_of_lt hpos)
        rwa [Rat.mul_zero] at this
      rcases Rat.mul_eq_zero.1 h5 with h6 | h6
      · rw [h6] at hpos; exact absurd hpos (by decide)
      · rw [h6]; exact Rat.le_refl
theorem ee_perm {m m' : List Nat} (h : m.Perm m') : ∀ c : Rat, ee c m = ee c m' := by
  induction h with
  | nil => intro c; rfl
  | cons x _ ih => intro c; rw [ee, ee, ih, ih]
  | swap x y l => intro c; simp only [ee]; grind
  | trans _ _ h1 h2 => intro c; rw [h1, h2]
theorem mm_ee : ∀ m : List Nat, mm m = - ee 0 m := by
  intro m
  induction m with
  | nil => simp only [mm, ee]; grind
  | cons x m ih => rw [mm, ee, ih]; grind
theorem mm_perm {m m' : List Nat} (h : m.Perm m') : mm m = mm m' := by rw [mm_ee, mm_ee, ee_perm h]
theorem ee_more (c : Rat) (hc : 0 < c) (m : List Nat) : ∀ E : List Nat, ee c (E ++ m) ≤ ee c m := by
  intro E
  induction E with
  | nil => exact Rat.le_refl
  | cons x E ih =>
    have hx : (0 : Rat) ≤ (x : Rat) := by exact_mod_cast Nat.zero_le x
    have h := ee_nonneg _ (E ++ m) (Nat.le_refl _) (c + (x : Rat)) (by grind)
    rw [List.cons_append, ee]
    grind
theorem mm_more (m : List Nat) : ∀ E : List Nat, (∀ x ∈ E, 1 ≤ x) → mm m ≤ mm (E ++ m) := by
  intro E
  induction E with
  | nil => intro _; exact Rat.le_refl
  | cons x E ih =>
    intro hE
    have hx : (0 : Rat) < (x : Rat) := by have := hE x (by simp); exact_mod_cast (show 0 < x by omega)
    have h := ee_nonneg _ (E ++ m) (Nat.le_refl _) (x : Rat) hx
    have := ih (fun y hy => hE y (by simp [hy]))
    rw [List.cons_append, mm]
    grind
theorem mm_nonneg (m : List Nat) (h : ∀ x ∈ m, 1 ≤ x) : 0 ≤ mm m := by
  have := mm_more [] m h
  simpa [mm] using this
/-- The same sum as a run over the parts. -/
def gg (c : Rat) : List (Bool × Nat) → Rat
  | [] => 0
  | (b, y) :: t => (if b then 1 / (c + (y : Rat)) else -(1 / (c + (y : Rat)))) + gg c t
theorem gg_flat (c : Rat) (x : Nat) : ∀ L : List (Bool × Nat), gg c (L.flatMap fun b => [(!b.1, b.2 + x), (b.1, b.2)]) = gg c L - gg (c + (x : Rat)) L := by
  intro L
  induction L with
  | nil => simp only [List.flatMap_nil, gg]; grind
  | cons a L ih =>
    obtain ⟨b, y⟩ := a
    rw [List.flatMap_cons]
    simp only [List.cons_append, List.nil_append, gg]
    rw [ih]
    have e : c + ((y + x : Nat) : Rat) = c + (x : Rat) + (y : Rat) := by push_cast; grind
    rw [e]
    cases b <;> simp <;> grind
theorem gg_ee : ∀ (m : List Nat) (c : Rat), gg c (dscS m) = ee c m := by
  intro m
  induction m with
  | nil =>
    intro c
    simp only [dscS, gg, ee, if_true]
    have : ((0 : Nat) : Rat) = 0 := rfl
    rw [this, Rat.add_zero, Rat.add_zero]
  | cons x m ih => intro c; rw [dscS, gg_flat, ih, ih, ee]
theorem rs_gg (A : Nat) : ∀ L : List (Bool × Nat), rs A L = -((A : Rat) * gg 0 L) := by
  intro L
  induction L with
  | nil => simp only [rs, gg]; grind
  | cons a L ih =>
    obtain ⟨b, y⟩ := a
    rw [rs, gg, ih]
    have e : (0 : Rat) + (y : Rat) = (y : Rat) := Rat.zero_add _
    rw [e]
    cases b <;> simp <;> grind
theorem rs_mm (A : Nat) (m : List Nat) : rs A (dscS m) = (A : Rat) * mm m := by
  rw [rs_gg, gg_ee, mm_ee]
  grind

end Go.Proofs.Ytigmhomfadimnaa.Pure
