/- Plain laws of packets: the chances that a set is there, in the program and in the reference. -/
import Derived.Test.YtigmhomfadimnaaQHDone
import Derived.Test.YtigmhomfadimnaaQXcomfitref04Done
import Derived.Test.YtigmhomfadimnaaQMBase
set_option linter.unusedVariables false
set_option linter.unusedSimpArgs false
namespace Go.Proofs.Ytigmhomfadimnaa.Pure
open Go.RowKit Go.Proofs.Ytigmhomfadimnaa.X Go.Proofs.YtigmhomfadimnaaW.PrintWords Go.Proofs.YtigmhomfadimnaaW.PrintLast Go.Proofs.YtigmhomfadimnaaW.PrintMore

/-! Plain laws of packets: the chances that a set is there, in the program and in the reference. -/
/-- In how many ways (of all) a set comes in n packets. -/
def dn (l : List Int) (s : Int) (n : Nat) : Int := lsum (partsL s) fun p => sg p * (tot l - wsum l p) ^ n
theorem dn_term (l : List Int) (h : okW l = true) (p : Int) (n : Nat) (hn : n ≤ 8) (h0 : 0 ≤ p) (h1 : p < 2 ^ l.length) : -72301961339136 ≤ sg p * (tot l - wsum l p) ^ n ∧ sg p * (tot l - wsum l p) ^ n ≤ 72301961339136 ∧ 0 ≤ tot l - wsum l p ∧ tot l - wsum l p ≤ 54 := by
  have ht := tot_bound l h
  have hr := wsum_rest l p h0 h1
  rw [okW_iff] at h
  have hb := wsum_bound l h.2.2 (2 ^ l.length - 1 - p)
  have hb2 := wsum_bound l h.2.2 p
  have hp := pow_bound (tot l - wsum l p) (by omega) (by omega) n hn
  refine ⟨?_, ?_, by omega, by omega⟩ <;> rcases sg_cases p with e | e <;> rw [e] <;> omega
theorem dn_bound (l : List Int) (h : okW l = true) (s : Int) (n : Nat) (hn : n ≤ 8) (h0 : 0 ≤ s) (h1 : s < 2 ^ l.length) : -4627325525704704 ≤ dn l s n ∧ dn l s n ≤ 4627325525704704 := by
  have hl := pow_le l.length (by rw [okW_iff] at h; exact h.2.1)
  have hb := lsum_bound (L := partsL s) (F := fun p => sg p * (tot l - wsum l p) ^ n) (M := 72301961339136) (fun p hp => by
    have := parts_mem s h0 (by omega) p hp
    have := dn_term l h p n hn (by omega) (by omega)
    exact ⟨this.1, this.2.1⟩)
  have := parts_len s h0 (by omega)
  unfold dn
  omega
theorem done_step_ev (l : List Int) (h : okW l = true) (p n S : Int) (hn0 : 0 ≤ n) (hn : n ≤ 8) (h0 : 0 ≤ p) (h1 : p < 2 ^ l.length) : Ev (fun k => packets_weights_done.step k l n p (wrap64 S)) (wrap64 (S + sg p * (tot l - wsum l p) ^ n.toNat)) := by
  have hk := (okW_iff l).1 h
  have hl := pow_le l.length hk.2.1
  have ht := dn_term l h p n.toNat (by omega) h0 h1
  have hp := pow_bound _ ht.2.2.1 ht.2.2.2 n.toNat (by omega)
  unfold packets_weights_done.step
  refine Ev.bind (packets_sign_ev p h0 (by omega)) ?_
  rw [all_ok l hk.2.1]
  simp only [Option.bind_some]
  rw [rest_ok l.length hk.2.1 p h0 h1]
  refine Ev.bind (packets_of_ev l _ (by omega) (by omega) hk.2.1) ?_
  rw [wsum_rest l p h0 h1, w_in (by omega) (by omega)]
  refine Ev.bind (packets_power_ev _ n hn0 (by omega)) (Ev.const ?_)
  congr 1
  rw [w_mulr, w_add]
theorem done_go_ev (l : List Int) (h : okW l = true) (n : Int) (hn0 : 0 ≤ n) (hn : n ≤ 8) : ∀ (L : List Int) (S : Int), (∀ p ∈ L, 0 ≤ p ∧ p < 2 ^ l.length) → Ev (fun k => packets_weights_done.go k l n L (wrap64 S)) (wrap64 (S + lsum L fun p => sg p * (tot l - wsum l p) ^ n.toNat)) := by
  intro L
  induction L with
  | nil => intro S _; exact Ev.const (by simp [packets_weights_done.go, lsum_nil])
  | cons p L ih =>
    intro S hL
    have hp := hL p (by simp)
    unfold packets_weights_done.go
    refine Ev.bind (done_step_ev l h p n S hn0 hn hp.1 hp.2) ((ih _ fun q hq => hL q (by simp [hq])).cast ?_)
    rw [lsum_cons, Int.add_assoc]
theorem done_ev (l : List Int) (h : okW l = true) (s n : Int) (hn0 : 0 ≤ n) (hn : n ≤ 8) (h0 : 0 ≤ s) (h1 : s < 2 ^ l.length) : Ev (fun k => packets_weights_done.f k l s n) (dn l s n.toNat) := by
  have hk := (okW_iff l).1 h
  have hl := pow_le l.length hk.2.1
  have hb := dn_bound l h s n.toNat (by omega) h0 h1
  unfold packets_weights_done.f
  refine Ev.ifPos h0 (Ev.ifPos (by omega) ?_)
  have := done_go_ev l h n hn0 hn (partsL s) 0 (fun p hp => by have := parts_mem s h0 (by omega) p hp; omega)
  rw [w_zero] at this
  refine Ev.cast (u := dn l s n.toNat) (v := wrap64 (0 + lsum (partsL s) fun p => sg p * (tot l - wsum l p) ^ n.toNat)) this ?_
  rw [Int.zero_add]
  exact w_in (by unfold dn at hb; omega) (by unfold dn at hb; omega)

theorem refDone_go (l : List Int) (h : okW l = true) (s n : Int) (hn0 : 0 ≤ n) (hn : n ≤ 8) (v : Int × Int) : ∀ (d : Nat) (t S : Int), 0 ≤ t → t + d = 2 ^ l.length →
    (Ev (fun k => (comfitref04_power.f k (tot l) n).bind fun t363 => (comfitref04_frac.f k (wrap64 (S + lsum (lst d t s) fun p => sg p * (tot l - wsum l p) ^ n.toNat)) t363).bind fun bt364 => some (bt364.1, bt364.2)) v) →
    Ev (fun k => comfitref04_Done.l0 k l s n (tot l) (wrap64 S) (2 ^ l.length) t) v := by
  have hk := (okW_iff l).1 h
  have hl := pow_le l.length hk.2.1
  intro d
  induction d with
  | zero =>
    intro t S h0 hd hv
    refine Ev.succ hv (fun k => ?_)
    rw [comfitref04_Done.l0, if_neg (by omega)]
    simp [lst, lsum_nil]
  | succ d ih =>
    intro t S h0 hd hv
    have ht : t < 2 ^ l.length := by omega
    have hterm := dn_term l h t n.toNat (by omega) h0 ht
    have hwb := wsum_bound l hk.2.2 t
    have hlen : (l.length : Int) ≤ 6 := by have := hk.2.1; omega
    have e1 : wrap64 (t + 1) = t + 1 := w_in (by omega) (by omega)
    by_cases hs : Go.bits .andNot .i64 t s = 0
    · have hrec := ih (t + 1) (S + sg t * (tot l - wsum l t) ^ n.toNat) (by omega) (by omega) (by
        rw [lst, if_pos hs, lsum_cons, ← Int.add_assoc] at hv
        exact hv)
      obtain ⟨a, ha⟩ := ref_Sum_ev l t h0 (by omega) hk.2.1
      obtain ⟨b, hb⟩ := ref_power_ev (tot l - wsum l t) n hn0 (by omega)
      obtain ⟨c, hc⟩ := ref_odd_ev t h0 (by omega)
      obtain ⟨e, he⟩ := hrec
      dsimp only at ha hb hc he
      refine ⟨a + b + c + e + 1, fun k hk' => ?_⟩
      obtain ⟨m, rfl⟩ : ∃ m, k = m + 1 := ⟨k - 1, by omega⟩
      show comfitref04_Done.l0 (m + 1) l s n (tot l) (wrap64 S) (2 ^ l.length) t = _
      rw [comfitref04_Done.l0, if_pos ht, if_pos hs, ha m (by omega)]
      simp only [Option.bind_some]
      rw [w_subr, w_in (n := tot l - wsum l t) (by omega) (by omega), hb m (by omega)]
      simp only [Option.bind_some]
      rw [hc m (by omega)]
      simp only [Option.bind_some, e1]
      rw [← he m (by omega)]
      rcases sg_cases t with hsg | hsg <;> rw [hsg] <;> simp [w_add, w_neg, Int.sub_eq_add_neg]
    · have hrec := ih (t + 1) S (by omega) (by omega) (by
        rw [lst, if_neg hs] at hv
        exact hv)
      exact Ev.succ hrec (fun k => by rw [comfitref04_Done.l0, if_pos ht, if_neg hs, e1])
theorem refDone_ev (l : List Int) (h : okW l = true) (s n : Int) (hn0 : 0 ≤ n) (hn : n ≤ 8) (h0 : 0 ≤ s) (h1 : s < 2 ^ l.length) : Ev (fun k => comfitref04_Done.f k l s n) (fr (Rat.divInt (dn l s n.toNat) (tot l ^ n.toNat))) := by
  have hk := (okW_iff l).1 h
  have hl := pow_le l.length hk.2.1
  have ht := tot_bound l h
  have hb := dn_bound l h s n.toNat (by omega) h0 h1
  have hp := pow_bound (tot l) (by omega) (by omega) n.toNat (by omega)
  have hpp : 0 < tot l ^ n.toNat := Int.pow_pos (by omega)
  have hsum : lsum (lst (2 ^ l.length) 0 s) (fun p => sg p * (tot l - wsum l p) ^ n.toNat) = dn l s n.toNat := lsum_perm (lst_perm l.length hk.2.1 s h0 h1) _
  have hgo := refDone_go l h s n hn0 hn (fr (Rat.divInt (dn l s n.toNat) (tot l ^ n.toNat))) (2 ^ l.length) 0 0 (by omega) (by push_cast; omega) (by
    refine Ev.bind (ref_power_ev _ n hn0 (by omega)) ?_
    rw [Int.zero_add, hsum, w_in (by omega) (by omega), w_in (by omega) (by omega)]
    exact Ev.bind (ref_frac_ev _ _ hpp (by omega) (by omega) (by omega)) (Ev.const rfl))
  unfold comfitref04_Done.f
  rw [shl_ok _ hk.2.1, w_in (n := 2 ^ l.length - 1) (by omega) (by omega)]
  refine Ev.bind (ref_Sum_ev l _ (by omega) (by omega) hk.2.1) ?_
  have e2 : wrap64 (wsum l (2 ^ l.length - 1)) = tot l := w_in (by unfold tot at ht; omega) (by unfold tot at ht; omega)
  rw [e2]
  rw [w_zero] at hgo
  exact hgo

/-! Plain laws of packets: the chance of one kind. -/
theorem dn_single (l : List Int) (n i : Nat) (hi : i < l.length) (hl : l.length ≤ 6) : dn l (2 ^ i) n = tot l ^ n - (tot l - rd l (i : Int)) ^ n := by
  unfold dn
  rw [parts_single i (by omega)]
  simp only [lsum_cons, lsum_nil]
  rw [sg_single i (by omega), sg_zero, wsum_single l i hi, wsum_zero]
  simp
  omega
theorem rd_ok (l : List Int) (h : okW l = true) (i : Nat) (hi : i < l.length) : 1 ≤ rd l (i : Int) ∧ rd l (i : Int) ≤ 9 := by
  rw [okW_iff] at h
  have : rd l (i : Int) = l[i] := by simp [rd, hi]
  rw [this]
  exact h.2.2 _ (List.getElem_mem hi)
theorem pow_le_pow {a b : Int} (h0 : 0 ≤ a) (h : a ≤ b) : ∀ n : Nat, a ^ n ≤ b ^ n := by
  intro n
  induction n with
  | zero => simp
  | succ n ih =>
    rw [Int.pow_succ, Int.pow_succ]
    exact Int.mul_le_mul ih h h0 (Int.pow_nonneg (by omega))
/-- Bernoulli. -/
theorem bern (a w : Int) (h0 : 0 ≤ w) (h1 : w ≤ a) : ∀ n : Nat, a * (a ^ n - (a - w) ^ n) ≤ n * (w * a ^ n) := by
  intro n
  induction n with
  | zero => simp
  | succ n ih =>
    have e : a * (a ^ (n + 1) - (a - w) ^ (n + 1)) = a * (a * (a ^ n - (a - w) ^ n)) + a * (w * (a - w) ^ n) := by grind
    have h2 : a * (a * (a ^ n - (a - w) ^ n)) ≤ a * (n * (w * a ^ n)) := Int.mul_le_mul_of_nonneg_left ih (by omega)
    have h3 : w * (a - w) ^ n ≤ w * a ^ n := Int.mul_le_mul_of_nonneg_left (pow_le_pow (by omega) (by omega) n) h0
    have h4 : a * (w * (a - w) ^ n) ≤ a * (w * a ^ n) := Int.mul_le_mul_of_nonneg_left h3 (by omega)
    have e2 : ((n + 1 : Nat) : Int) * (w * a ^ (n + 1)) = a * (n * (w * a ^ n)) + a * (w * a ^ n) := by push_cast; grind
    rw [e, e2]
    omega
theorem rd_le_tot (l : List Int) (h : okW l = true) (i : Nat) (hi : i < l.length) : rd l (i : Int) ≤ tot l := by
  have hk := (okW_iff l).1 h
  have h2 := wsum_rest l (2 ^ i) (Int.pow_nonneg (by omega)) (by
    have := Nat.pow_lt_pow_right (a := 2) (by omega) hi
    exact_mod_cast this)
  have h3 := wsum_bound l hk.2.2 (2 ^ l.length - 1 - 2 ^ i)
  rw [wsum_single l i hi] at h2
  omega
theorem dn_single_bound (l : List Int) (h : okW l = true) (n i : Nat) (hi : i < l.length) : 0 ≤ dn l (2 ^ i) n ∧ dn l (2 ^ i) n ≤ tot l ^ n := by
  have hk := (okW_iff l).1 h
  have h1 := rd_ok l h i hi
  have h2 := rd_le_tot l h i hi
  rw [dn_single l n i hi hk.2.1]
  have h3 := pow_le_pow (a := tot l - rd l i) (b := tot l) (by omega) (by omega) n
  have h4 : 0 ≤ (tot l - rd l i) ^ n := Int.pow_nonneg (by omega)
  omega

end Go.Proofs.Ytigmhomfadimnaa.Pure
