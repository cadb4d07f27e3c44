/- PacketsKinds: the sum of the chances of each kind, in the program over one denominator, in the reference as fractions. -/
import Derived.Test.YtigmhomfadimnaaXcomfitlaw04PacketsKinds
import Derived.Test.YtigmhomfadimnaaMDone
import Derived.Test.YtigmhomfadimnaaMRat
import Derived.Test.YtigmhomfadimnaaMList
set_option linter.unusedVariables false
set_option linter.unusedSimpArgs false
namespace Go.Proofs.Ytigmhomfadimnaa.Pure
open Go.RowKit Go.Proofs.Ytigmhomfadimnaa.X Go.Proofs.YtigmhomfadimnaaW.PrintWords Go.Proofs.YtigmhomfadimnaaW.PrintLast Go.Proofs.YtigmhomfadimnaaW.PrintMore

/-- The ways of the kinds from i on, together. -/
def ks (l : List Int) (n : Nat) : Nat → Nat → Int
  | _, 0 => 0
  | i, d + 1 => dn l (2 ^ i) n + ks l n (i + 1) d
theorem pow_lt_pow (i n : Nat) (h : i < n) : (2 : Int) ^ i < 2 ^ n := by
  have := Nat.pow_lt_pow_right (a := 2) (by omega) h
  exact_mod_cast this
theorem ks_bound (l : List Int) (h : okW l = true) (n : Nat) (hn : n ≤ 8) : ∀ (d i : Nat), i + d = l.length → -(d * 4627325525704704) ≤ ks l n i d ∧ ks l n i d ≤ d * 4627325525704704 := by
  intro d
  induction d with
  | zero => intro i _; simp [ks]
  | succ d ih =>
    intro i hi
    have h1 := ih (i + 1) (by omega)
    have h2 := dn_bound l h (2 ^ i) n hn (Int.pow_nonneg (by omega)) (pow_lt_pow i l.length (by omega))
    rw [ks]
    push_cast
    omega
theorem kinds_go (l : List Int) (h : okW l = true) (n : Int) (hn0 : 0 ≤ n) (hn : n ≤ 8) (v : Int × Int × Int) : ∀ (d i : Nat), i + d = l.length → ∀ S : Int,
    Ev (fun k => (packets_weights_all.f l).bind fun t353 => (packets_weights_of.f k l t353).bind fun t354 => (packets_power.f k t354 n).bind fun t355 => (packets_frac.f k (wrap64 (S + ks l n.toNat i d)) t355).bind fun bt356 => some (bt356.1, bt356.2, 0)) v →
    Ev (fun k => packets_Kinds.l0 k n l (wrap64 S) (l.length : Int) (i : Int)) v := by
  have hk := (okW_iff l).1 h
  intro d
  induction d with
  | zero =>
    intro i hi S hv
    refine Ev.succ hv (fun k => ?_)
    rw [packets_Kinds.l0, if_neg (by omega)]
    simp [ks]
  | succ d ih =>
    intro i hi S hv
    refine Ev.succ (g := fun k => (packets_weights_done.f k l (2 ^ i) n).bind fun t352 => packets_Kinds.l0 k n l (wrap64 (S + t352)) (l.length : Int) ((i + 1 : Nat) : Int)) (Ev.bind (done_ev l h (2 ^ i) n hn0 hn (Int.pow_nonneg (by omega)) (pow_lt_pow i l.length (by omega))) (ih (i + 1) (by omega) _ ?_)) (fun k => ?_)
    · rw [ks, ← Int.add_assoc] at hv
      exact hv
    · rw [packets_Kinds.l0, if_pos (by omega), if_pos (by omega), shl_ok i (by omega), w_in (n := (i : Int) + 1) (by omega) (by omega)]
      simp only [w_addl]
      push_cast
      rfl
theorem refKinds_go (l : List Int) (h : okW l = true) (n : Int) (hn0 : 0 ≤ n) (hn : n ≤ 8) : ∀ (d i : Nat), i + d = l.length → ∀ S : Int, -(i * 4627325525704704) ≤ S → S ≤ i * 4627325525704704 →
    Ev (fun k => comfitref04_Kinds.l0 k l n (l.length : Int) (i : Int) (fr (Rat.divInt S (tot l ^ n.toNat))).1 (fr (Rat.divInt S (tot l ^ n.toNat))).2) (fr (Rat.divInt (S + ks l n.toNat i d) (tot l ^ n.toNat))) := by
  have hk := (okW_iff l).1 h
  have ht := tot_bound l h
  have hp := pow_bound (tot l) (by omega) (by omega) n.toNat (by omega)
  have hpp : 0 < tot l ^ n.toNat := Int.pow_pos (by omega)
  intro d
  induction d with
  | zero =>
    intro i hi S h0 h1
    refine Ev.succ (g := fun _ => some (fr (Rat.divInt S (tot l ^ n.toNat)))) (Ev.const (by simp [ks])) (fun k => ?_)
    rw [comfitref04_Kinds.l0, if_neg (by omega)]
  | succ d ih =>
    intro i hi S h0 h1
    have hd := dn_bound l h (2 ^ i) n.toNat (by omega) (Int.pow_nonneg (by omega)) (pow_lt_pow i l.length (by omega))
    have hrec := ih (i + 1) (by omega) (S + dn l (2 ^ i) n.toNat) (by push_cast; omega) (by push_cast; omega)
    obtain ⟨a, ha⟩ := refDone_ev l h (2 ^ i) n hn0 hn (Int.pow_nonneg (by omega)) (pow_lt_pow i l.length (by omega))
    obtain ⟨b, hb⟩ := ref_Plus_ev S (dn l (2 ^ i) n.toNat) (tot l ^ n.toNat) hpp (by omega) (by omega) (by omega)
    obtain ⟨e, he⟩ := hrec
    dsimp only at ha hb he
    refine ⟨a + b + e + 1, fun k hk' => ?_⟩
    obtain ⟨m, rfl⟩ : ∃ m, k = m + 1 := ⟨k - 1, by omega⟩
    show comfitref04_Kinds.l0 (m + 1) l n (l.length : Int) (i : Int) _ _ = _
    rw [comfitref04_Kinds.l0, if_pos (by omega), if_pos (by omega), shl_ok i (by omega), ha m (by omega)]
    simp only [Option.bind_some]
    rw [hb m (by omega)]
    simp only [Option.bind_some]
    rw [w_in (n := (i : Int) + 1) (by omega) (by omega)]
    have := he m (by omega)
    rw [ks, ← Int.add_assoc]
    rw [← this]
    push_cast
    rfl
theorem Kinds_ev (l : List Int) (h : okW l = true) (n : Int) (hn0 : 0 ≤ n) (hn : n ≤ 8) : Ev (fun k => packets_Kinds.f k l n) ((fr (Rat.divInt (ks l n.toNat 0 l.length) (tot l ^ n.toNat))).1, (fr (Rat.divInt (ks l n.toNat 0 l.length) (tot l ^ n.toNat))).2, 0) := by
  have hk := (okW_iff l).1 h
  have hl := pow_le l.length hk.2.1
  have ht := tot_bound l h
  have hp := pow_bound (tot l) (by omega) (by omega) n.toNat (by omega)
  have hpp : 0 < tot l ^ n.toNat := Int.pow_pos (by omega)
  have hb := ks_bound l h n.toNat (by omega) l.length 0 (by omega)
  unfold packets_Kinds.f
  refine Ev.bind (valid_ev l) ?_
  refine Ev.ifPos h ?_
  have hc : packets_isCount.f n = some true := by rw [packets_isCount.f, if_pos hn0, decide_eq_true hn]
  rw [hc]
  simp only [Option.bind_some, Bool.not_true]
  refine Ev.succ (g := fun k => packets_Kinds.l0 k n l 0 (l.length : Int) 0) ?_ (fun k => by rw [packets_Kinds.j0, if_neg (by simp)])
  have hgo := kinds_go l h n hn0 hn ((fr (Rat.divInt (ks l n.toNat 0 l.length) (tot l ^ n.toNat))).1, (fr (Rat.divInt (ks l n.toNat 0 l.length) (tot l ^ n.toNat))).2, 0) l.length 0 (by omega) 0 (by
    rw [all_ok l hk.2.1]
    simp only [Option.bind_some]
    refine Ev.bind (packets_of_ev l _ (by omega) (by omega) hk.2.1) ?_
    have e2 : wrap64 (wsum l (2 ^ l.length - 1)) = tot l := w_in (by unfold tot at ht; omega) (by unfold tot at ht; omega)
    rw [e2]
    refine Ev.bind (packets_power_ev _ n hn0 (by omega)) ?_
    have hlen : (l.length : Int) ≤ 6 := by have := hk.2.1; omega
    rw [Int.zero_add, w_in (n := ks l n.toNat 0 l.length) (by omega) (by omega), w_in (by omega) (by omega)]
    exact Ev.bind (packets_frac_ev _ _ hpp (by omega) (by omega) (by omega)) (Ev.const rfl))
  rw [w_zero] at hgo
  exact hgo
theorem refKinds_ev (l : List Int) (h : okW l = true) (n : Int) (hn0 : 0 ≤ n) (hn : n ≤ 8) : Ev (fun k => comfitref04_Kinds.f k l n) (fr (Rat.divInt (ks l n.toNat 0 l.length) (tot l ^ n.toNat))) := by
  have ht := tot_bound l h
  have hpp : 0 < tot l ^ n.toNat := Int.pow_pos (by omega)
  have hgo := refKinds_go l h n hn0 hn l.length 0 (by omega) 0 (by omega) (by omega)
  have e0 : fr (Rat.divInt 0 (tot l ^ n.toNat)) = (0, 1) := by rw [Rat.zero_divInt]; rfl
  rw [e0, Int.zero_add] at hgo
  unfold comfitref04_Kinds.f comfitref04_whole.f
  exact hgo
theorem Kinds_bad (l : List Int) (n : Int) (h : okW l = false ∨ n < 0 ∨ n > 8) : Ev (fun k => packets_Kinds.f k l n) (0, 0, 2) := by
  unfold packets_Kinds.f
  refine Ev.bind (valid_ev l) ?_
  cases hw : okW l with
  | false => exact Ev.ifNeg (by simp) (Ev.succ (g := fun _ => some (0, 0, 2)) (Ev.const rfl) (fun k => by simp [packets_Kinds.j0]))
  | true =>
    refine Ev.ifPos rfl ?_
    have hc : packets_isCount.f n = some false := by
      have : n < 0 ∨ n > 8 := by simpa [hw] using h
      unfold packets_isCount.f
      split
      · simp; omega
      · rfl
    rw [hc]
    exact (Ev.succ (g := fun _ => some (0, 0, 2)) (Ev.const rfl) (fun k => by simp [packets_Kinds.j0]))
theorem PacketsKinds : comfitlaw04_PacketsKinds.Pure := by
  intro l n _ hl _ _
  refine Ev.get ?_
  unfold comfitlaw04_PacketsKinds.f
  rw [list_ok]
  simp only [Option.bind_some]
  have hlen : l.length < 4611686018427387904 := by omega
  by_cases hg : okW l = true ∧ 0 ≤ n ∧ n ≤ 8
  · obtain ⟨h, hn0, hn⟩ := hg
    rw [take_ok l h]
    refine Ev.bind (Kinds_ev l h n hn0 hn) (Ev.bind (Weights_ev l hlen) (Ev.ifPos h (Ev.ifNeg (by omega) ?_)))
    rw [show decide (n > 8) = false from decide_eq_false (by omega)]
    refine Ev.succ (g := fun k => (comfitref04_Kinds.f k l n).bind fun bt384 => (if ((fr (Rat.divInt (ks l n.toNat 0 l.length) (tot l ^ n.toNat))).1 == bt384.1 && ((fr (Rat.divInt (ks l n.toNat 0 l.length) (tot l ^ n.toNat))).2 == bt384.2)) = true then (if (0 : Int) = 0 then ((comfitlaw04_awake.f k).bind fun t386 => (some t386)) else (some false)) else (some false))) ?_ (fun k => by rw [comfitlaw04_PacketsKinds.j0, if_neg (by simp)])
    refine Ev.bind (refKinds_ev l h n hn0 hn) (Ev.ifPos (by simp) (Ev.ifPos rfl (Ev.bind awake_ev (Ev.const rfl))))
  · have hb : okW (l.take 8) = false ∨ n < 0 ∨ n > 8 := by
      rw [okW_take]
      cases h : okW l with
      | false => exact .inl rfl
      | true => exact .inr (by simp only [h, true_and] at hg; omega)
    have hj : Ev (fun k => comfitlaw04_PacketsKinds.j0 k l n 2 true 0 0) true := by
      refine Ev.succ (g := fun k => (comfitlaw04_awake.f k).bind fun t383 => (some t383)) (Ev.bind awake_ev (Ev.const rfl)) (fun k => ?_)
      simp [comfitlaw04_PacketsKinds.j0, comfitlaw04_none.f]
    refine Ev.bind (Kinds_bad _ n hb) (Ev.bind (Weights_ev l hlen) ?_)
    cases h : okW l with
    | false => exact Ev.ifNeg (by simp) hj
    | true =>
      refine Ev.ifPos rfl ?_
      by_cases h0 : n < 0
      · exact Ev.ifPos h0 hj
      · refine Ev.ifNeg h0 ?_
        rw [show decide (n > 8) = true from decide_eq_true (by simp only [h, true_and] at hg; omega)]
        exact hj

end Go.Proofs.Ytigmhomfadimnaa.Pure
