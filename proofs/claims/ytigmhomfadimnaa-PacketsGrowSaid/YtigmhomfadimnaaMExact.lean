/- Plain laws of packets: the chances that just a set's kinds came, and the sets that are let in. -/
import Derived.Test.YtigmhomfadimnaaMDone
import Derived.Test.YtigmhomfadimnaaHExact
import Derived.Test.YtigmhomfadimnaaXcomfitref04Exact
import Derived.Test.YtigmhomfadimnaaXpacketsDone
set_option linter.unusedVariables false
set_option linter.unusedSimpArgs false
namespace Go.Proofs.Ytigmhomfadimnaa.Pure
open Go.RowKit Go.Proofs.Ytigmhomfadimnaa.X Go.Proofs.YtigmhomfadimnaaW.PrintWords Go.Proofs.YtigmhomfadimnaaW.PrintLast Go.Proofs.YtigmhomfadimnaaW.PrintMore

/-! Plain laws of packets: the chances that just a set's kinds came, and the sets that are let in. -/
/-- In how many ways just a set's kinds come in n packets. -/
def ex (l : List Int) (s : Int) (n : Nat) : Int := lsum (partsL s) fun p => sg (Go.bits .andNot .i64 s p) * (wsum l p) ^ n
theorem minus_dec : ∀ s : Fin 64, ((partsL (s.val : Int)).all fun p => decide (0 ≤ Go.bits .andNot .i64 (s.val : Int) p) && decide (Go.bits .andNot .i64 (s.val : Int) p ≤ s.val)) = true := by decide +kernel
theorem minus_mem (s : Int) (h0 : 0 ≤ s) (h1 : s < 64) (p : Int) (hp : p ∈ partsL s) : 0 ≤ Go.bits .andNot .i64 s p ∧ Go.bits .andNot .i64 s p ≤ s := by
  obtain ⟨n, rfl⟩ := Int.eq_ofNat_of_zero_le h0
  have := minus_dec ⟨n, by omega⟩
  rw [List.all_eq_true] at this
  simpa using this p hp
theorem ex_term (l : List Int) (h : okW l = true) (q p : Int) (n : Nat) (hn : n ≤ 8) : -72301961339136 ≤ sg q * (wsum l p) ^ n ∧ sg q * (wsum l p) ^ n ≤ 72301961339136 ∧ 0 ≤ wsum l p ∧ wsum l p ≤ 54 := by
  rw [okW_iff] at h
  have hb := wsum_bound l h.2.2 p
  have hlen : (l.length : Int) ≤ 6 := by have := h.2.1; omega
  have hp := pow_bound (wsum l p) (by omega) (by omega) n hn
  refine ⟨?_, ?_, by omega, by omega⟩ <;> rcases sg_cases q with e | e <;> rw [e] <;> omega
theorem ex_bound (l : List Int) (h : okW l = true) (s : Int) (n : Nat) (hn : n ≤ 8) (h0 : 0 ≤ s) (h1 : s < 64) : -4627325525704704 ≤ ex l s n ∧ ex l s n ≤ 4627325525704704 := by
  have hb := lsum_bound (L := partsL s) (F := fun p => sg (Go.bits .andNot .i64 s p) * (wsum l p) ^ n) (M := 72301961339136) (fun p hp => by
    have := ex_term l h (Go.bits .andNot .i64 s p) p n hn
    exact ⟨this.1, this.2.1⟩)
  have := parts_len s h0 (by omega)
  unfold ex
  omega
theorem exact_go_ev (l : List Int) (h : okW l = true) (s n : Int) (hn0 : 0 ≤ n) (hn : n ≤ 8) : ∀ (L : List Int) (S : Int), (∀ p ∈ L, 0 ≤ p ∧ p < 64 ∧ 0 ≤ Go.bits .andNot .i64 s p ∧ Go.bits .andNot .i64 s p < 64) → Ev (fun k => packets_Exact.go k l s n L (wrap64 S)) (wrap64 (S + lsum L fun p => sg (Go.bits .andNot .i64 s p) * (wsum l p) ^ n.toNat)) := by
  have hk := (okW_iff l).1 h
  intro L
  induction L with
  | nil => intro S _; exact Ev.const (by simp [packets_Exact.go, lsum_nil])
  | cons p L ih =>
    intro S hL
    have hp := hL p (by simp)
    have ht := ex_term l h (Go.bits .andNot .i64 s p) p n.toNat (by omega)
    have hpb := pow_bound _ ht.2.2.1 ht.2.2.2 n.toNat (by omega)
    unfold packets_Exact.go packets_Exact.step
    refine Ev.bind (v := wrap64 (S + sg (Go.bits .andNot .i64 s p) * (wsum l p) ^ n.toNat)) (Ev.bind (packets_sign_ev _ hp.2.2.1 hp.2.2.2) (Ev.bind (packets_of_ev l p hp.1 hp.2.1 hk.2.1) ?_)) ((ih _ fun q hq => hL q (by simp [hq])).cast ?_)
    · rw [w_in (n := wsum l p) (by omega) (by omega)]
      refine Ev.bind (packets_power_ev _ n hn0 (by omega)) (Ev.const ?_)
      congr 1
      rw [w_mulr, w_add]
    · rw [lsum_cons, Int.add_assoc]
theorem Exact_ev (l : List Int) (s n : Int) (hs : okS l s = true) (hn0 : 0 ≤ n) (hn : n ≤ 8) : Ev (fun k => packets_Exact.f k l s n) ((fr (Rat.divInt (ex l s n.toNat) (tot l ^ n.toNat))).1, (fr (Rat.divInt (ex l s n.toNat) (tot l ^ n.toNat))).2, 0) := by
  obtain ⟨h, h0, h1⟩ := (okS_iff l s).1 hs
  have hk := (okW_iff l).1 h
  have hl := pow_le l.length hk.2.1
  have ht := tot_bound l h
  have hp := pow_bound (tot l) (by omega) (by omega) n.toNat (by omega)
  have hpp : 0 < tot l ^ n.toNat := Int.pow_pos (by omega)
  have hb := ex_bound l h s n.toNat (by omega) h0 (by omega)
  unfold packets_Exact.f
  refine Ev.bind (isSet_ev l s) (Ev.ifPos hs ?_)
  rw [isCount_ok]
  simp only [Option.bind_some]
  refine Ev.ifPos ((okN_iff n).2 ⟨hn0, hn⟩) ?_
  have hgo := exact_go_ev l h s n hn0 hn (partsL s) 0 (fun p hp => by have := parts_mem s h0 (by omega) p hp; have := minus_mem s h0 (by omega) p hp; omega)
  rw [w_zero, Int.zero_add] at hgo
  refine Ev.bind (hgo.cast (u := ex l s n.toNat) (w_in (by unfold ex at hb; omega) (by unfold ex at hb; omega))) ?_
  rw [all_ok l hk.2.1]
  simp only [Option.bind_some]
  refine Ev.bind (packets_of_ev l _ (by omega) (by omega) hk.2.1) ?_
  have e2 : wrap64 (wsum l (2 ^ l.length - 1)) = tot l := w_in (by unfold tot at ht; omega) (by unfold tot at ht; omega)
  rw [e2]
  refine Ev.bind (packets_power_ev _ n hn0 (by omega)) ?_
  rw [w_in (by omega) (by omega)]
  exact Ev.bind (packets_frac_ev _ _ hpp (by omega) (by omega) (by omega)) (Ev.const rfl)
theorem Exact_bad (l : List Int) (s n : Int) (h : okS l s = false ∨ okN n = false) : Ev (fun k => packets_Exact.f k l s n) (0, 0, 2) := by
  unfold packets_Exact.f
  refine Ev.bind (isSet_ev l s) ?_
  cases hs : okS l s with
  | false => exact Ev.ifNeg (by simp) (Ev.const rfl)
  | true =>
    refine Ev.ifPos rfl ?_
    rw [isCount_ok, show okN n = false by simpa [hs] using h]
    exact Ev.const rfl
theorem Done_ev (l : List Int) (s n : Int) (hs : okS l s = true) (hn0 : 0 ≤ n) (hn : n ≤ 8) : Ev (fun k => packets_Done.f k l s n) ((fr (Rat.divInt (dn l s n.toNat) (tot l ^ n.toNat))).1, (fr (Rat.divInt (dn l s n.toNat) (tot l ^ n.toNat))).2, 0) := by
  obtain ⟨h, h0, h1⟩ := (okS_iff l s).1 hs
  have hk := (okW_iff l).1 h
  have hl := pow_le l.length hk.2.1
  have ht := tot_bound l h
  have hp := pow_bound (tot l) (by omega) (by omega) n.toNat (by omega)
  have hpp : 0 < tot l ^ n.toNat := Int.pow_pos (by omega)
  have hb := dn_bound l h s n.toNat (by omega) h0 h1
  unfold packets_Done.f
  refine Ev.bind (isSet_ev l s) (Ev.ifPos hs ?_)
  rw [isCount_ok, (okN_iff n).2 ⟨hn0, hn⟩]
  simp only [Option.bind_some, Bool.not_true]
  refine Ev.succ (g := fun k => (packets_weights_done.f k l s n).bind fun t414 => ((packets_weights_all.f l).bind fun t415 => ((packets_weights_of.f k l t415).bind fun t416 => ((packets_power.f k t416 n).bind fun t417 => ((packets_frac.f k t414 t417).bind fun bt418 => (some (bt418.1, bt418.2, 0))))))) ?_ (fun k => by rw [packets_Done.j0, if_neg (by simp)])
  refine Ev.bind (done_ev l h s n hn0 hn h0 h1) ?_
  rw [all_ok l hk.2.1]
  simp only [Option.bind_some]
  refine Ev.bind (packets_of_ev l _ (by omega) (by omega) hk.2.1) ?_
  have e2 : wrap64 (wsum l (2 ^ l.length - 1)) = tot l := w_in (by unfold tot at ht; omega) (by unfold tot at ht; omega)
  rw [e2]
  refine Ev.bind (packets_power_ev _ n hn0 (by omega)) ?_
  rw [w_in (by omega) (by omega)]
  exact Ev.bind (packets_frac_ev _ _ hpp (by omega) (by omega) (by omega)) (Ev.const rfl)
theorem Done_bad (l : List Int) (s n : Int) (h : okS l s = false ∨ okN n = false) : Ev (fun k => packets_Done.f k l s n) (0, 0, 2) := by
  unfold packets_Done.f
  refine Ev.bind (isSet_ev l s) ?_
  cases hs : okS l s with
  | false => exact Ev.ifNeg (by simp) (Ev.succ (g := fun _ => some (0, 0, 2)) (Ev.const rfl) (fun k => by simp [packets_Done.j0]))
  | true =>
    refine Ev.ifPos rfl ?_
    rw [isCount_ok, show okN n = false by simpa [hs] using h]
    exact (Ev.succ (g := fun _ => some (0, 0, 2)) (Ev.const rfl) (fun k => by simp [packets_Done.j0]))

theorem refExact_go (l : List Int) (h : okW l = true) (s n : Int) (hs0 : 0 ≤ s) (hs1 : s < 2 ^ l.length) (hn0 : 0 ≤ n) (hn : n ≤ 8) (v : Int × Int) : ∀ (d : Nat) (t S : Int), 0 ≤ t → t + d = 2 ^ l.length → (∀ p ∈ lst d t s, p ∈ partsL s) →
    (Ev (fun k => (comfitref04_power.f k (tot l) n).bind fun t425 => (comfitref04_frac.f k (wrap64 (S + lsum (lst d t s) fun p => sg (Go.bits .andNot .i64 s p) * (wsum l p) ^ n.toNat)) t425).bind fun bt426 => some (bt426.1, bt426.2)) v) →
    Ev (fun k => comfitref04_Exact.l0 k l s n (tot l) (wrap64 S) (2 ^ l.length) t) v := by
  have hk := (okW_iff l).1 h
  have hl := pow_le l.length hk.2.1
  intro d
  induction d with
  | zero =>
    intro t S h0 hd _ hv
    refine Ev.succ hv (fun k => ?_)
    rw [comfitref04_Exact.l0, if_neg (by omega)]
    simp [lst, lsum_nil]
  | succ d ih =>
    intro t S h0 hd hm hv
    have ht : t < 2 ^ l.length := by omega
    have e1 : wrap64 (t + 1) = t + 1 := w_in (by omega) (by omega)
    by_cases hs : Go.bits .andNot .i64 t s = 0
    · rw [lst, if_pos hs] at hm
      have hterm := ex_term l h (Go.bits .andNot .i64 s t) t n.toNat (by omega)
      have hmm := minus_mem s hs0 (by omega) t (hm t (by simp))
      have hrec := ih (t + 1) (S + sg (Go.bits .andNot .i64 s t) * (wsum l t) ^ n.toNat) (by omega) (by omega) (fun p hp => hm p (by simp [hp])) (by
        rw [lst, if_pos hs, lsum_cons, ← Int.add_assoc] at hv
        exact hv)
      obtain ⟨a, ha⟩ := ref_Sum_ev l t h0 (by omega) hk.2.1
      obtain ⟨b, hb⟩ := ref_power_ev (wsum l t) n hn0 (by omega)
      obtain ⟨c, hc⟩ := ref_odd_ev (Go.bits .andNot .i64 s t) (by omega) (by omega)
      obtain ⟨e, he⟩ := hrec
      dsimp only at ha hb hc he
      refine ⟨a + b + c + e + 1, fun k hk' => ?_⟩
      obtain ⟨m, rfl⟩ : ∃ m, k = m + 1 := ⟨k - 1, by omega⟩
      show comfitref04_Exact.l0 (m + 1) l s n (tot l) (wrap64 S) (2 ^ l.length) t = _
      rw [comfitref04_Exact.l0, if_pos ht, if_pos hs, ha m (by omega)]
      simp only [Option.bind_some]
      rw [w_in (n := wsum l t) (by omega) (by omega), hb m (by omega)]
      simp only [Option.bind_some]
      rw [hc m (by omega)]
      simp only [Option.bind_some, e1]
      rw [← he m (by omega)]
      rcases sg_cases (Go.bits .andNot .i64 s t) with hsg | hsg <;> rw [hsg] <;> simp [w_add, w_neg, Int.sub_eq_add_neg]
    · rw [lst, if_neg hs] at hm
      have hrec := ih (t + 1) S (by omega) (by omega) hm (by
        rw [lst, if_neg hs] at hv
        exact hv)
      exact Ev.succ hrec (fun k => by rw [comfitref04_Exact.l0, if_pos ht, if_neg hs, e1])
theorem refExact_ev (l : List Int) (s n : Int) (hs : okS l s = true) (hn0 : 0 ≤ n) (hn : n ≤ 8) : Ev (fun k => comfitref04_Exact.f k l s n) (fr (Rat.divInt (ex l s n.toNat) (tot l ^ n.toNat))) := by
  obtain ⟨h, h0, h1⟩ := (okS_iff l s).1 hs
  have hk := (okW_iff l).1 h
  have hl := pow_le l.length hk.2.1
  have ht := tot_bound l h
  have hb := ex_bound l h s n.toNat (by omega) h0 (by omega)
  have hp := pow_bound (tot l) (by omega) (by omega) n.toNat (by omega)
  have hpp : 0 < tot l ^ n.toNat := Int.pow_pos (by omega)
  have hperm := lst_perm l.length hk.2.1 s h0 h1
  have hsum : lsum (lst (2 ^ l.length) 0 s) (fun p => sg (Go.bits .andNot .i64 s p) * (wsum l p) ^ n.toNat) = ex l s n.toNat := lsum_perm hperm _
  have hgo := refExact_go l h s n h0 h1 hn0 hn (fr (Rat.divInt (ex l s n.toNat) (tot l ^ n.toNat))) (2 ^ l.length) 0 0 (by omega) (by push_cast; omega) (fun p hp => hperm.mem_iff.1 hp) (by
    refine Ev.bind (ref_power_ev _ n hn0 (by omega)) ?_
    rw [Int.zero_add, hsum, w_in (by omega) (by omega), w_in (by omega) (by omega)]
    exact Ev.bind (ref_frac_ev _ _ hpp (by omega) (by omega) (by omega)) (Ev.const rfl))
  unfold comfitref04_Exact.f
  rw [shl_ok _ hk.2.1, w_in (n := 2 ^ l.length - 1) (by omega) (by omega)]
  refine Ev.bind (ref_Sum_ev l _ (by omega) (by omega) hk.2.1) ?_
  have e2 : wrap64 (wsum l (2 ^ l.length - 1)) = tot l := w_in (by unfold tot at ht; omega) (by unfold tot at ht; omega)
  rw [e2]
  rw [w_zero] at hgo
  exact hgo

end Go.Proofs.Ytigmhomfadimnaa.Pure
