/- PacketsSum: the chances to be the last of a set sum to one, and those that just some kinds came; a set is there where one that has it came. -/
import Derived.Test.YtigmhomfadimnaaXcomfitlaw04PacketsSum
import Derived.Test.YtigmhomfadimnaaMSup

import Derived.Test.YtigmhomfadimnaaMCount
set_option linter.unusedVariables false
set_option linter.unusedSimpArgs false
namespace Go.Proofs.Ytigmhomfadimnaa.Pure
open Go.RowKit Go.Proofs.Ytigmhomfadimnaa.X Go.Proofs.YtigmhomfadimnaaW.PrintWords Go.Proofs.YtigmhomfadimnaaW.PrintLast Go.Proofs.YtigmhomfadimnaaW.PrintMore

/-! ### The last ones -/
theorem rl_over (D x : Nat) (hD : 0 < D) : ∀ L : List (Bool × Nat), (∀ c ∈ L, 0 < c.2 + x ∧ c.2 + x ∣ D) → ∃ N : Int, rl x L = Rat.divInt N D := by
  intro L
  induction L with
  | nil => intro _; exact ⟨0, by rw [rl, Rat.zero_divInt]⟩
  | cons c L ih =>
    obtain ⟨b, y⟩ := c
    intro hd
    obtain ⟨N, hN⟩ := ih (fun c hc => hd c (by simp [hc]))
    have hyd := hd (b, y) (by simp)
    have h := term_eq x (y + x) D hyd.1 hyd.2 hD (if b then 1 else -1)
    refine ⟨(if b then 1 else -1) * (x * (D / (y + x)) : Nat) + N, ?_⟩
    rw [rl, hN, ← divInt_sum, ← h]
    congr 1
    rw [Rat.divInt_eq_div, Rat.intCast_mul]
    have e1 : (((y + x : Nat) : Int) : Rat) = (x : Rat) + (y : Rat) := by
      rw [Rat.intCast_natCast]; push_cast; grind
    rw [e1, Rat.intCast_natCast]
    cases b
    · simp only [Bool.false_eq_true, if_false]
      show _ = ((-1 : Int) : Rat) * _ / _
      grind
    · simp only [if_true]
      show _ = ((1 : Int) : Rat) * _ / _
      grind
def lsumR (l : List Int) (s : Int) : Nat → Nat → Rat
  | _, 0 => 0
  | i, d + 1 => (if (s / 2 ^ i) % 2 = 1 then lastR l s i else 0) + lsumR l s (i + 1) d
theorem lastR_nonneg (l : List Int) (h : okW l = true) (s : Int) (i : Nat) (hi : i < l.length) : 0 ≤ lastR l s i := by
  have hx := rd_ok l h i hi
  have h0 : (0 : Rat) < ((rd l (i : Int)).toNat : Rat) := by exact_mod_cast (show 0 < (rd l (i : Int)).toNat by omega)
  exact Rat.mul_nonneg (Rat.le_of_lt h0) (ee_nonneg _ _ (Nat.le_refl _) _ h0)
theorem lsumR_nonneg (l : List Int) (h : okW l = true) (s : Int) : ∀ (d i : Nat), i + d = l.length → 0 ≤ lsumR l s i d := by
  intro d
  induction d with
  | zero => intro i _; exact Rat.le_refl
  | succ d ih =>
    intro i hi
    have h1 := ih (i + 1) (by omega)
    have h2 := lastR_nonneg l h s i (by omega)
    rw [lsumR]
    split
    · exact Rat.add_nonneg h2 h1
    · exact Rat.add_nonneg Rat.le_refl h1
theorem lsumR_ll (l : List Int) (s : Int) : ∀ (d i : Nat), i + d = l.length → ∀ pre : List Nat, (sub l s).Perm (pre ++ sub (l.drop i) (s / 2 ^ i)) → lsumR l s i d = ll 0 pre (sub (l.drop i) (s / 2 ^ i)) := by
  intro d
  induction d with
  | zero =>
    intro i hi pre _
    rw [List.drop_of_length_le (by omega)]
    rfl
  | succ d ih =>
    intro i hi pre hp
    have hdr := rd_drop l i (by omega)
    have hdiv : s / 2 ^ i / 2 = s / 2 ^ (i + 1) := by rw [Int.pow_succ, ← Int.ediv_ediv_of_nonneg (Int.pow_nonneg (by omega))]
    rw [lsumR]
    rw [hdr, sub, hdiv] at hp ⊢
    by_cases hb : (s / 2 ^ i) % 2 = 1
    · rw [if_pos hb] at hp ⊢
      rw [if_pos hb, ll, Rat.zero_add, ih (i + 1) (by omega) (pre ++ [(rd l (i : Int)).toNat]) (by rw [List.append_assoc]; exact hp)]
      congr 1
      unfold lastR
      congr 1
      refine ee_perm ?_ _
      have h1 := (sub_minus l s i (by omega) hb).symm.trans (hp.trans List.perm_middle)
      exact (List.perm_cons _).1 h1
    · rw [if_neg hb] at hp ⊢
      rw [if_neg hb, Rat.zero_add]
      exact ih (i + 1) (by omega) pre hp
theorem sub_nil : ∀ (l : List Int) (s : Int), 0 ≤ s → s < 2 ^ l.length → sub l s = [] → s = 0 := by
  intro l
  induction l with
  | nil => intro s h0 h1 _; simp at h1; omega
  | cons x l ih =>
    intro s h0 h1 h
    rw [List.length_cons, Int.pow_succ] at h1
    rw [sub] at h
    split at h
    · cases h
    · have := ih (s / 2) (by omega) (by omega) h
      omega
theorem lsumR_one (l : List Int) (h : okW l = true) (s : Int) (h0 : 0 ≤ s) (h1 : s < 2 ^ l.length) : lsumR l s 0 l.length = if s = 0 then 0 else 1 := by
  have hk := (okW_iff l).1 h
  have hr := sub_range l s hk.2.2
  have := lsumR_ll l s l.length 0 (by omega) [] (by simp)
  rw [this]
  simp only [Int.pow_zero, Int.ediv_one, List.drop_zero]
  rw [ll_one _ (fun x hx => (hr.1 x hx).1)]
  by_cases hs : s = 0
  · subst hs
    rw [sub_zero']
    rfl
  · rw [if_neg hs, if_neg (fun h => hs (sub_nil l s h0 h1 h))]
where
  sub_zero' : sub l 0 = [] := by
    clear h h0 h1 s
    induction l with
    | nil => rfl
    | cons x l ih => rw [sub, if_neg (by omega), Int.zero_ediv, ih]
theorem le_of_divInt {a b d : Int} (hd : 0 < d) (h : Rat.divInt a d ≤ Rat.divInt b d) : a ≤ b := by
  rw [Rat.divInt_eq_div, Rat.divInt_eq_div] at h
  have hd' : (0 : Rat) < (d : Rat) := by exact_mod_cast hd
  have h2 := Rat.mul_le_mul_of_nonneg_left h (Rat.le_of_lt hd')
  have e : ∀ x : Rat, (d : Rat) * (x / (d : Rat)) = x := by intro x; grind
  rw [e, e] at h2
  exact_mod_cast h2
theorem divInt_self_one (d : Int) (hd : 0 < d) : Rat.divInt d d = 1 := by
  rw [Rat.divInt_eq_div]
  have : (d : Rat) ≠ 0 := by
    intro h0
    have : d = 0 := by exact_mod_cast h0
    omega
  grind
theorem last_over (l : List Int) (s : Int) (hs : okS l s = true) : ∃ D : Nat, 0 < D ∧ D < 1152921504606846976 ∧ ∀ i : Nat, i < l.length → (s / 2 ^ i) % 2 = 1 → ∃ N : Int, lastR l s i = Rat.divInt N D := by
  obtain ⟨h, h0, h1⟩ := (okS_iff l s).1 hs
  have hk := (okW_iff l).1 h
  have hr := sub_range l s hk.2.2
  obtain ⟨D, hD, hD2, hdv, _⟩ := good2 (sub l s) hr.1 (by omega)
  refine ⟨D, hD, hD2, fun i hi hb => ?_⟩
  have hx := rd_ok l h i hi
  have hperm := sub_minus l s i hi hb
  obtain ⟨N, hN⟩ := rl_over D (rd l (i : Int)).toNat hD (dscS (sub l (s - 2 ^ i))) (fun c hc => by
    have hy : c.2 ∈ sumsN (sub l (s - 2 ^ i)) := by rw [← dscS_snd]; exact List.mem_map.2 ⟨c, hc, rfl⟩
    have hy2 : c.2 + (rd l (i : Int)).toNat ∈ sumsN (sub l s) := by
      refine (sumsN_perm hperm).mem_iff.2 ?_
      rw [sumsN, List.mem_flatMap]
      exact ⟨_, hy, by simp⟩
    rcases hdv _ hy2 with h | h
    · omega
    · exact ⟨by omega, h⟩)
  exact ⟨N, by rw [← hN, rl_gg, gg_ee]; rfl⟩
theorem sum_l0 (l : List Int) (s n : Int) (hs : okS l s = true) (D : Nat) (hD : 0 < D) (hD2 : D < 1152921504606846976) (hN : ∀ i : Nat, i < l.length → (s / 2 ^ i) % 2 = 1 → ∃ N : Int, lastR l s i = Rat.divInt N D) (a b c d : Int) (v : Bool) :
    ∀ (e i : Nat), i + e = l.length → ∀ N : Int, 0 ≤ N → Rat.divInt N D + lsumR l s i e ≤ 1 →
    Ev (fun k => comfitlaw04_PacketsSum.l1 k l s n (2 ^ l.length) 0 (fr (Rat.divInt N D + lsumR l s i e)).1 (fr (Rat.divInt N D + lsumR l s i e)).2 a b c d) v →
    Ev (fun k => comfitlaw04_PacketsSum.l0 k l s n (l.length : Int) (i : Int) (fr (Rat.divInt N D)).1 (fr (Rat.divInt N D)).2 a b c d) v := by
  obtain ⟨h, h0, h1⟩ := (okS_iff l s).1 hs
  have hk := (okW_iff l).1 h
  have hl := pow_le l.length hk.2.1
  have hDi : (0 : Int) < (D : Int) := by omega
  intro e
  induction e with
  | zero =>
    intro i hi N _ _ hv
    rw [lsumR, Rat.add_zero] at hv
    exact Ev.succ hv (fun k => by rw [comfitlaw04_PacketsSum.l0, if_neg (by omega), shl_ok _ hk.2.1])
  | succ e ih =>
    intro i hi N hN0 hle hv
    have e1 : wrap64 ((i : Int) + 1) = ((i + 1 : Nat) : Int) := by rw [w_in (by omega) (by omega)]; push_cast; rfl
    rw [lsumR] at hle hv
    by_cases hb : (s / 2 ^ i) % 2 = 1
    · rw [if_pos hb] at hle hv
      obtain ⟨M, hM⟩ := hN i (by omega) hb
      have hM0 : 0 ≤ M := le_of_divInt hDi (by rw [Rat.zero_divInt, ← hM]; exact lastR_nonneg l h s i (by omega))
      have hrest := lsumR_nonneg l h s e (i + 1) (by omega)
      rw [← Rat.add_assoc, hM, divInt_sum] at hle hv
      have hNM : N + M ≤ D := le_of_divInt hDi (by rw [divInt_self_one _ hDi]; grind)
      obtain ⟨k1, g1⟩ := Last_ev l s hs i (by omega) hb
      rw [hM] at g1
      obtain ⟨k2, g2⟩ := added_ev N M D hDi (by omega) hN0 hM0 (by omega)
      have hright := right_ok M D 1 hDi (by omega) (by omega) hM0 (by omega)
      obtain ⟨k3, g3⟩ := ih (i + 1) (by omega) (N + M) (by omega) hle hv
      dsimp only at g1 g2 g3
      refine ⟨k1 + k2 + k3 + 2, fun k hk' => ?_⟩
      obtain ⟨m, rfl⟩ : ∃ m, k = m + 1 + 1 := ⟨k - 2, by omega⟩
      show comfitlaw04_PacketsSum.l0 (m + 1 + 1) l s n (l.length : Int) (i : Int) _ _ a b c d = _
      rw [comfitlaw04_PacketsSum.l0, if_pos (by omega), if_pos (by omega), bit_of s h0 (by omega) i (by omega), hb, if_neg (by omega), list_ok, take_ok l h]
      simp only [Option.bind_some]
      rw [g1 (m + 1) (by omega)]
      simp only [Option.bind_some, if_true]
      rw [hright]
      simp only [Option.bind_some, Bool.not_true]
      rw [comfitlaw04_PacketsSum.j2, if_neg (by simp), g2 m (by omega)]
      simp only [Option.bind_some, if_true]
      rw [e1]
      exact g3 m (by omega)
    · rw [if_neg hb, Rat.zero_add] at hle hv
      refine Ev.succ (ih (i + 1) (by omega) N hN0 hle hv) (fun k => ?_)
      rw [comfitlaw04_PacketsSum.l0, if_pos (by omega), if_pos (by omega), bit_of s h0 (by omega) i (by omega), if_pos (by omega), e1]

/-! ### All sets -/
theorem and_ok (t s : Int) (t0 : 0 ≤ t) (t1 : t < 64) (s0 : 0 ≤ s) (s1 : s < 64) : decide (Go.bits .and .i64 t s = s) = supB 6 t s := by
  obtain ⟨a, rfl⟩ := Int.eq_ofNat_of_zero_le t0
  obtain ⟨b, rfl⟩ := Int.eq_ofNat_of_zero_le s0
  exact sup_dec ⟨a, by omega⟩ ⟨b, by omega⟩
theorem sum_l1 (l : List Int) (s n : Int) (hs : okS l s = true) (hn0 : 0 ≤ n) (hn : n ≤ 8) (A B : Int) (hAB : s = 0 ∨ (A = 1 ∧ B = 1)) :
    ∀ (e t : Nat), t + e = 2 ^ l.length →
    Ev (fun k => comfitlaw04_PacketsSum.l1 k l s n (2 ^ l.length) (t : Int) A B
      (fr (Rat.divInt (rsum t fun u => if supB 6 u s = true then EXr l u (fun y => y ^ n.toNat) else 0) (tot l ^ n.toNat))).1 (fr (Rat.divInt (rsum t fun u => if supB 6 u s = true then EXr l u (fun y => y ^ n.toNat) else 0) (tot l ^ n.toNat))).2
      (fr (Rat.divInt (rsum t fun u => EXr l u (fun y => y ^ n.toNat)) (tot l ^ n.toNat))).1 (fr (Rat.divInt (rsum t fun u => EXr l u (fun y => y ^ n.toNat)) (tot l ^ n.toNat))).2) true := by
  obtain ⟨h, h0, h1⟩ := (okS_iff l s).1 hs
  have hk := (okW_iff l).1 h
  have hl := pow_le l.length hk.2.1
  have ht := tot_bound l h
  have hp := pow_bound (tot l) (by omega) (by omega) n.toNat (by omega)
  have hpp : 0 < tot l ^ n.toNat := Int.pow_pos (by omega)
  have hnn : ∀ u : Int, 0 ≤ EXr l u (fun y => y ^ n.toNat) := fun u => EXr_nonneg l u _ (fun x hx => by have := hk.2.2 x hx; omega) (AM.pow _)
  have hnn2 : ∀ u : Int, 0 ≤ (if supB 6 u s = true then EXr l u (fun y => y ^ n.toNat) else 0) := fun u => by
    split
    · exact hnn u
    · exact Int.le_refl _
  have hS1 := SUP_sum l 6 s (fun y => y ^ n.toNat) hk.2.1 h0 h1
  have hS0 := SUP_sum l 6 0 (fun y => y ^ n.toNat) hk.2.1 (by omega) (by omega)
  simp only [supB_zero, if_true, SUP_zero] at hS0
  rw [← dn_SUP l h s n.toNat h0 h1] at hS1
  have hle : ∀ t : Nat, t ≤ 2 ^ l.length → rsum t (fun u => EXr l u (fun y => y ^ n.toNat)) ≤ tot l ^ n.toNat := by
    intro t ht'
    rw [← hS0]
    obtain ⟨d, hd⟩ : ∃ d, 2 ^ l.length = t + d := ⟨2 ^ l.length - t, by omega⟩
    rw [hd]
    exact rsum_le d t _ hnn
  have hle2 : ∀ t : Nat, t ≤ 2 ^ l.length → rsum t (fun u => if supB 6 u s = true then EXr l u (fun y => y ^ n.toNat) else 0) ≤ dn l s n.toNat := by
    intro t ht'
    rw [← hS1]
    obtain ⟨d, hd⟩ : ∃ d, 2 ^ l.length = t + d := ⟨2 ^ l.length - t, by omega⟩
    rw [hd]
    exact rsum_le d t _ hnn2
  have hdb := dn_bound l h s n.toNat (by omega) h0 h1
  have hpc : ((2 ^ l.length : Nat) : Int) = 2 ^ l.length := by push_cast; rfl
  intro e
  induction e with
  | zero =>
    intro t hte
    obtain rfl : t = 2 ^ l.length := by omega
    rw [hS1, hS0]
    obtain ⟨k1, g1⟩ := Done_ev l s n hs hn0 hn
    obtain ⟨k2, g2⟩ := awake_ev
    dsimp only at g1 g2
    refine ⟨k1 + k2 + 1, fun k hk' => ?_⟩
    obtain ⟨m, rfl⟩ : ∃ m, k = m + 1 := ⟨k - 1, by omega⟩
    show comfitlaw04_PacketsSum.l1 (m + 1) l s n (2 ^ l.length) _ A B _ _ _ _ = _
    rw [comfitlaw04_PacketsSum.l1, if_neg (by omega), list_ok, take_ok l h]
    simp only [Option.bind_some]
    rw [g1 m (by omega)]
    simp only [Option.bind_some, if_true]
    rw [if_pos (by simp), divInt_self_one _ hpp, if_pos (by rfl), g2 m (by omega)]
    rcases hAB with e | ⟨rfl, rfl⟩
    · rw [if_pos e]; rfl
    · split <;> rfl
  | succ e ih =>
    intro t hte
    have hrec := ih (t + 1) (by omega)
    have htl : (t : Int) < 2 ^ l.length := by omega
    have hokt : okS l (t : Int) = true := (okS_iff _ _).2 ⟨h, by omega, htl⟩
    obtain ⟨k1, g1⟩ := Exact_ev l (t : Int) n hokt hn0 hn
    have hex := ex_EX l h (t : Int) n.toNat (by omega) htl
    rw [hex] at g1
    have ht0 := hle t (by omega)
    have ht1 := hle (t + 1) (by omega)
    have ht2 := rsum_nonneg t _ hnn
    have ht3 := hnn (t : Int)
    have hu0 := hle2 t (by omega)
    have hu2 := rsum_nonneg t _ hnn2
    have hu3 := hnn2 (t : Int)
    have hu1 := hle2 (t + 1) (by omega)
    rw [rsum] at ht1 hu1
    simp only [rsum] at hrec
    have hright := right_ok (EXr l (t : Int) fun y => y ^ n.toNat) (tot l ^ n.toNat) 1 hpp (by omega) (by omega) ht3 (by omega)
    obtain ⟨k2, g2⟩ := added_ev (rsum t fun u => EXr l u (fun y => y ^ n.toNat)) (EXr l (t : Int) fun y => y ^ n.toNat) (tot l ^ n.toNat) hpp (by omega) ht2 ht3 (by omega)
    obtain ⟨k3, g3⟩ := added_ev (rsum t fun u => if supB 6 u s = true then EXr l u (fun y => y ^ n.toNat) else 0) (EXr l (t : Int) fun y => y ^ n.toNat) (tot l ^ n.toNat) hpp (by omega) hu2 ht3 (by omega)
    obtain ⟨k4, g4⟩ := hrec
    have hand := and_ok (t : Int) s (by omega) (by omega) h0 (by omega)
    have e1 : wrap64 ((t : Int) + 1) = ((t + 1 : Nat) : Int) := by rw [w_in (by omega) (by omega)]; push_cast; rfl
    dsimp only at g1 g2 g3 g4
    refine ⟨k1 + k2 + k3 + k4 + 2, fun k hk' => ?_⟩
    obtain ⟨m, rfl⟩ : ∃ m, k = m + 1 + 1 := ⟨k - 2, by omega⟩
    show comfitlaw04_PacketsSum.l1 (m + 1 + 1) l s n (2 ^ l.length) (t : Int) A B _ _ _ _ = _
    rw [comfitlaw04_PacketsSum.l1, if_pos htl, list_ok, take_ok l h]
    simp only [Option.bind_some]
    rw [g1 (m + 1) (by omega)]
    simp only [Option.bind_some, if_true]
    rw [hright]
    simp only [Option.bind_some, Bool.not_true]
    rw [comfitlaw04_PacketsSum.j4, if_neg (by simp), g2 m (by omega)]
    simp only [Option.bind_some, if_true]
    rw [e1]
    have g5 := g4 m (by omega)
    by_cases hsup : supB 6 (t : Int) s = true
    · rw [hsup] at hand
      rw [if_pos (of_decide_eq_true hand), g3 m (by omega)]
      simp only [Option.bind_some, if_true]
      simp only [hsup, if_true] at g5
      exact g5
    · have hf : supB 6 (t : Int) s = false := by simpa using hsup
      rw [hf] at hand
      rw [if_neg (of_decide_eq_false hand)]
      simp only [hf, Bool.false_eq_true, if_false, Int.add_zero] at g5
      exact g5
theorem PacketsSum : comfitlaw04_PacketsSum.Pure := by
  intro l s n _ hl _ _ _
  refine Ev.get ?_
  unfold comfitlaw04_PacketsSum.f
  have hlen : l.length < 4611686018427387904 := by omega
  have hbad : okS l s = false ∨ okN n = false → Ev (fun k => comfitlaw04_PacketsSum.j0 k l s n true) true := by
    intro hb
    have hb2 : okS (l.take 8) s = false ∨ okN n = false := by rw [okS_take]; exact hb
    refine Ev.succ (g := fun k => (packets_Done.f k (l.take 8) s n).bind fun bt630 => if bt630.2.2 = 2 then ((comfitlaw04_awake.f k).bind fun t634 => some t634) else some false) (Ev.bind (Done_bad _ s n hb2) (Ev.ifPos rfl (Ev.bind awake_ev (Ev.const rfl)))) (fun k => ?_)
    rw [comfitlaw04_PacketsSum.j0, if_pos rfl, list_ok]
    rfl
  refine Ev.bind (Set_ev l s hlen) ?_
  cases hs : okS l s with
  | false => exact Ev.ifNeg (by simp) (hbad (.inl hs))
  | true =>
    refine Ev.ifPos rfl ?_
    by_cases c1 : n < 0
    · exact Ev.ifPos c1 (hbad (.inr (by rw [← Bool.not_eq_true, okN_iff]; omega)))
    refine Ev.ifNeg c1 ?_
    by_cases c2 : n > 8
    · rw [decide_eq_true c2]; exact hbad (.inr (by rw [← Bool.not_eq_true, okN_iff]; omega))
    rw [decide_eq_false c2]
    obtain ⟨h, h0, h1⟩ := (okS_iff l s).1 hs
    obtain ⟨D, hD, hD2, hN⟩ := last_over l s hs
    have hone := lsumR_one l h s h0 h1
    have e0 : fr (Rat.divInt 0 (D : Int)) = (0, 1) := by rw [Rat.zero_divInt]; rfl
    have e0' : fr (Rat.divInt 0 (tot l ^ n.toNat)) = (0, 1) := by rw [Rat.zero_divInt]; rfl
    have hl1 := sum_l1 l s n hs (by omega) (by omega) (fr (lsumR l s 0 l.length)).1 (fr (lsumR l s 0 l.length)).2 (by
      by_cases hz : s = 0
      · exact .inl hz
      · right
        rw [hone, if_neg hz]
        exact ⟨rfl, rfl⟩) (2 ^ l.length) 0 (by omega)
    simp only [rsum, e0'] at hl1
    have hgo := sum_l0 l s n hs D hD hD2 hN 0 1 0 1 true l.length 0 (by omega) 0 (by omega) (by
      rw [Rat.zero_divInt, Rat.zero_add, hone]
      split
      · decide
      · exact Rat.le_refl) (by rw [Rat.zero_divInt, Rat.zero_add]; exact hl1)
    rw [e0] at hgo
    exact Ev.succ hgo (fun k => by rw [comfitlaw04_PacketsSum.j0, if_neg (by simp)]; rfl)

end Go.Proofs.Ytigmhomfadimnaa.Pure
