/- PacketsCount: the average number of kinds is the sum of the chances of each one. -/
import Derived.Test.YtigmhomfadimnaaXcomfitlaw04PacketsCount
import Derived.Test.YtigmhomfadimnaaMCount
import Derived.Test.YtigmhomfadimnaaMExact
set_option linter.unusedVariables false
set_option linter.unusedSimpArgs false
namespace Go.Proofs.Ytigmhomfadimnaa.Pure
open Go.RowKit Go.Proofs.Ytigmhomfadimnaa.X Go.Proofs.YtigmhomfadimnaaW.PrintWords Go.Proofs.YtigmhomfadimnaaW.PrintLast Go.Proofs.YtigmhomfadimnaaW.PrintMore

theorem count_go (l : List Int) (h : okW l = true) (n : Int) (hn0 : 0 ≤ n) (hn : n ≤ 8) : ∀ (d i : Nat), i + d = l.length → ∀ S : Int, 0 ≤ S → S ≤ i * tot l ^ n.toNat → S + ks l n.toNat i d = ks l n.toNat 0 l.length →
    Ev (fun k => comfitlaw04_PacketsCount.l0 k l n (l.length : Int) (i : Int) (fr (Rat.divInt (ks l n.toNat 0 l.length) (tot l ^ n.toNat))).1 (fr (Rat.divInt (ks l n.toNat 0 l.length) (tot l ^ n.toNat))).2 (fr (Rat.divInt S (tot l ^ n.toNat))).1 (fr (Rat.divInt S (tot l ^ n.toNat))).2) true := by
  have hk := (okW_iff l).1 h
  have ht := tot_bound l h
  have hp := pow_bound (tot l) (by omega) (by omega) n.toNat (by omega)
  have hpp : 0 < tot l ^ n.toNat := Int.pow_pos (by omega)
  have hks := ks_le l h n.toNat
  intro d
  induction d with
  | zero =>
    intro i hi S h0 h1 hS
    have hS' : S = ks l n.toNat 0 l.length := by simpa [ks] using hS
    rw [hS']
    have hr : comfitlaw04_right.f (fr (Rat.divInt (ks l n.toNat 0 l.length) (tot l ^ n.toNat))).1 (fr (Rat.divInt (ks l n.toNat 0 l.length) (tot l ^ n.toNat))).2 (mn (l.length : Int) n) = some true := by
      have hnn : ((n.toNat : Nat) : Int) = n := by omega
      refine right_ok _ _ _ hpp (by unfold mn; split <;> omega) (by unfold mn; split <;> omega) hks.1 ?_
      unfold mn
      split
      · have := hks.2.2; rw [hnn] at this; exact this
      · exact hks.2.1
    refine Ev.succ (g := fun k => (comfitlaw04_awake.f k).bind fun t542 => (some t542)) (Ev.bind awake_ev (Ev.const rfl)) (fun k => ?_)
    rw [comfitlaw04_PacketsCount.l0, if_neg (by omega), if_pos (by simp), hr]
    rfl
  | succ d ih =>
    intro i hi S h0 h1 hS
    have hd := dn_single_bound l h n.toNat i (by omega)
    have hlt : (2 : Int) ^ i < 2 ^ l.length := pow_lt_pow i l.length (by omega)
    have hil : (i : Int) ≤ 6 := by have := hk.2.1; omega
    have hSb : S ≤ 6 * tot l ^ n.toNat := Int.le_trans h1 (Int.mul_le_mul_of_nonneg_right hil (by omega))
    have hrec := ih (i + 1) (by omega) (S + dn l (2 ^ i) n.toNat) (by omega) (by push_cast; rw [Int.add_mul]; omega) (by rw [ks] at hS; omega)
    have hsing : (2 : Int) ^ i = shl .i64 1 (i : Int) := (shl_ok i (by omega)).symm
    obtain ⟨a, ha⟩ := Done_ev l (2 ^ i) n ((okS_iff _ _).2 ⟨h, Int.pow_nonneg (by omega), hlt⟩) hn0 hn
    obtain ⟨b, hb⟩ := added_ev S (dn l (2 ^ i) n.toNat) (tot l ^ n.toNat) hpp (by omega) h0 hd.1 (by omega)
    obtain ⟨e, he⟩ := hrec
    have hr := right_ok (dn l (2 ^ i) n.toNat) (tot l ^ n.toNat) 1 hpp (by omega) (by omega) hd.1 (by omega)
    dsimp only at ha hb he
    refine ⟨a + b + e + 2, fun k hk' => ?_⟩
    obtain ⟨m, rfl⟩ : ∃ m, k = m + 1 + 1 := ⟨k - 2, by omega⟩
    show comfitlaw04_PacketsCount.l0 (m + 1 + 1) l n (l.length : Int) (i : Int) _ _ _ _ = _
    rw [comfitlaw04_PacketsCount.l0, if_pos (by omega), list_ok, take_ok l h]
    simp only [Option.bind_some]
    rw [if_pos (by omega), shl_ok i (by omega), ha (m + 1) (by omega)]
    simp only [Option.bind_some, if_true, hr, Bool.not_true]
    rw [comfitlaw04_PacketsCount.j2, if_neg (by simp), hb m (by omega)]
    simp only [Option.bind_some, if_true]
    rw [w_in (n := (i : Int) + 1) (by omega) (by omega)]
    have := he m (by omega)
    rw [← this]
    push_cast
    rfl
theorem PacketsCount : comfitlaw04_PacketsCount.Pure := by
  intro l n _ hl _ _
  refine Ev.get ?_
  unfold comfitlaw04_PacketsCount.f
  rw [list_ok]
  simp only [Option.bind_some]
  have hlen : l.length < 4611686018427387904 := by omega
  by_cases hg : okW l = true ∧ 0 ≤ n ∧ n ≤ 8
  · obtain ⟨h, hn0, hn⟩ := hg
    have ht := tot_bound l h
    have hpp : 0 < tot l ^ n.toNat := Int.pow_pos (by omega)
    rw [take_ok l h]
    refine Ev.bind (Kinds_ev l h n hn0 hn) (Ev.ifPos rfl (Ev.bind (Weights_ev l hlen) (Ev.ifPos h (Ev.ifNeg (by omega) ?_))))
    rw [show decide (n > 8) = false from decide_eq_false (by omega)]
    have hgo := count_go l h n hn0 hn l.length 0 (by omega) 0 (by omega) (by omega) (by omega)
    have e0 : fr (Rat.divInt 0 (tot l ^ n.toNat)) = (0, 1) := by rw [Rat.zero_divInt]; rfl
    rw [e0] at hgo
    exact Ev.succ hgo (fun k => by rw [comfitlaw04_PacketsCount.j0, if_neg (by simp)]; rfl)
  · have hb : okW (l.take 8) = false ∨ n < 0 ∨ n > 8 := by
      rw [okW_take]
      cases h : okW l with
      | false => exact .inl rfl
      | true => exact .inr (by simp only [h, true_and] at hg; omega)
    refine Ev.bind (Kinds_bad _ n hb) (Ev.ifNeg (by simp) ?_)
    refine Ev.succ (g := fun k => (comfitlaw04_awake.f k).bind fun t528 => (some t528)) (Ev.bind awake_ev (Ev.const rfl)) (fun k => ?_)
    simp [comfitlaw04_PacketsCount.j0]

end Go.Proofs.Ytigmhomfadimnaa.Pure
