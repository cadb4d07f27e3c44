/- Plain laws of packets: First, as the program reckons it. -/
import Derived.Test.YtigmhomfadimnaaQMFirst
import Derived.Test.YtigmhomfadimnaaQHFirst
set_option linter.unusedVariables false
set_option linter.unusedSimpArgs false
namespace Go.Proofs.Ytigmhomfadimnaa.Pure
open Go.RowKit Go.Proofs.Ytigmhomfadimnaa.X Go.Proofs.YtigmhomfadimnaaW.PrintWords Go.Proofs.YtigmhomfadimnaaW.PrintLast Go.Proofs.YtigmhomfadimnaaW.PrintMore
theorem ptimes_ev (p q : Rat) (hp : Fits p) (hq : Fits q) (hr : Fits (p * q)) : Ev (fun k => packets_times.f k (fr p).1 (fr p).2 (fr q).1 (fr q).2) (fr (p * q)) := by
  unfold packets_times.f
  have hpd := p.den_pos
  have hqd := q.den_pos
  have h1 := packets_frac_ev p.num (q.den : Int) (by omega) hq.den hp.lo hp.hi
  have h2 := packets_frac_ev q.num (p.den : Int) (by omega) hp.den hq.lo hq.hi
  refine Ev.bind h1 (Ev.bind h2 (Ev.const ?_))
  rw [fr_divInt _ _ (by omega), fr_divInt _ _ (by omega)]
  obtain ⟨e1, e2⟩ := mul_parts p q
  have w1 : wrap64 (p * q).num = (p * q).num := w_in (by have := hr.lo; omega) hr.hi
  have w2 : wrap64 ((p * q).den : Int) = ((p * q).den : Int) := w_in (by omega) hr.den
  show some (wrap64 _, wrap64 _) = some ((p * q).num, ((p * q).den : Int))
  rw [← e1, w1, Int.mul_comm, ← e2, w2]
/-- One step of a sum of products. -/
theorem pstep_ev (p q : Rat) (y w N T E : Int) (hw : 0 < w) (hw2 : w < 9223372036854775808) (hy : 0 ≤ y) (hy2 : y < 9223372036854775808) (hE : 0 < E) (hE2 : E < 9223372036854775808) (hp : p = Rat.divInt N E) (ht : Rat.divInt y w * q = Rat.divInt T E)
    (hN : 0 ≤ N) (hT : 0 ≤ T) (hNT : N + T < 9223372036854775808) (hq : Fits q) {v : Int × Int} {g : Nat → Int × Int → Option (Int × Int)} {o : Nat → Option Int} {z : Nat → Option (Int × Int)} (ho : Ev o w) (hz : Ev z (fr q)) (hg : Ev (fun k => g k (fr (p + Rat.divInt y w * q))) v) :
    Ev (fun k => (o k).bind fun x => (packets_frac.f k y x).bind fun a => (z k).bind fun c => (packets_times.f k a.1 a.2 c.1 c.2).bind fun b => (packets_plus.f k (fr p).1 (fr p).2 b.1 b.2).bind fun c => g k c) v := by
  have f1 := packets_frac_ev y w hw hw2 (by omega) hy2
  have F1 : Fits (Rat.divInt y w) := Fits.of_over hw hw2 (by omega) hy2
  have FT : Fits (Rat.divInt y w * q) := by rw [ht]; exact Fits.of_over hE hE2 (by omega) (by omega)
  have f2 := ptimes_ev (Rat.divInt y w) q F1 hq FT
  have f3 := packets_plus_ev N T E hE hE2 (by omega) hNT
  rw [← hp, ← ht] at f3
  have e : Rat.divInt (N + T) E = p + Rat.divInt y w * q := by
    rw [hp, ht, Rat.divInt_eq_div, Rat.divInt_eq_div, Rat.divInt_eq_div, Rat.intCast_add]
    grind
  rw [e] at f3
  exact Ev.bind ho (Ev.bind f1 (Ev.bind hz (Ev.bind f2 (Ev.bind f3 hg))))
theorem first_loop (l : List Int) (h : okW l = true) (a b c s : Int) (hs : Go.bits .andNot .i64 (Go.bits .or .i64 a b) c = s) (h0 : 0 ≤ s) (h1 : s < 2 ^ l.length) (d : Int) (W P : Nat) (S : StepS l s W P)
    (ih : ∀ i : Nat, i < l.length → (s / 2 ^ i) % 2 = 1 → Ev (fun k => packets_First1.f k l a b (Go.bits .or .i64 c (shl .i64 1 (i : Int)))) (fr (gw l d (s - 2 ^ i)))) :
    ∀ (e i : Nat), i + e = l.length → ∀ N : Int, 0 ≤ N → Rat.divInt N ((W * P : Nat) : Int) + suf (sG l d s W) i e ≤ 1 →
      Ev (fun k => packets_First1.l0 k l a b c (i : Int) (fr (Rat.divInt N ((W * P : Nat) : Int))).1 (fr (Rat.divInt N ((W * P : Nat) : Int))).2) (fr (Rat.divInt N ((W * P : Nat) : Int) + suf (sG l d s W) i e)) := by
  have hk := (okW_iff l).1 h
  have hp := pow_le l.length hk.2.1
  have hlen := hk.2.1
  have hE0 : (0 : Int) < ((W * P : Nat) : Int) := by exact_mod_cast Nat.mul_pos S.w0 S.p0
  have hE2 : ((W * P : Nat) : Int) < 9223372036854775808 := by
    have hb := S.b
    generalize W * P = E at hb ⊢
    omega
  have hPi : (0 : Int) < (P : Int) := Int.ofNat_lt.mpr S.p0
  have hP2 : (P : Int) < 9223372036854775808 := by
    have h3 : P ≤ W * P := Nat.le_mul_of_pos_left _ S.w0
    have h4 := Nat.lt_of_le_of_lt h3 S.b
    clear h3
    omega
  have hWi : (0 : Int) < (W : Int) := Int.ofNat_lt.mpr S.w0
  have hW54 : (W : Int) ≤ 54 := by have := S.w54; omega
  have hs64 : s < 64 := by omega
  have hOf : Ev (fun k => packets_weights_of.f k l s) (W : Int) := (packets_of_ev l s h0 hs64 hk.2.1).cast (by rw [S.w]; exact w_in (by omega) (by omega))
  have HS := Aside0.mk hs
  clear hs
  intro e
  induction e with
  | zero =>
    intro i hi N hN _
    have hc1 : ¬ (i : Int) < (l.length : Int) := by omega
    refine Ev.succ (g := fun _ => some (fr (Rat.divInt N ((W * P : Nat) : Int)))) (Ev.const ?_) (fun k => by rw [packets_First1.l0, if_neg hc1])
    rw [suf, Rat.add_zero]
  | succ e ihe =>
    intro i hi N hN hle
    have hi6 : i < 6 := by clear hle; omega
    have hil : i < l.length := by clear hle; omega
    have hnx : i + 1 + e = l.length := by clear hle; omega
    have hbo := bit_of s h0 hs64 i hi6
    have hc1 : (i : Int) < (l.length : Int) := Int.ofNat_lt.mpr hil
    have hiw := rd_ok l h i hil
    rw [suf] at hle ⊢
    by_cases hb : (s / 2 ^ i) % 2 = 1
    · have hs1 : sG l d s W i = Rat.divInt (rd l (i : Int)) (W : Int) * gw l d (s - 2 ^ i) := by unfold sG; rw [if_pos hb]
      obtain ⟨-, hle2⟩ := less_at s h0 hs64 i hi6 hb
      have hpi : (0 : Int) < 2 ^ i := Int.pow_pos (by omega)
      have hgr := gw_rng l h d (s - 2 ^ i) (by omega) (by omega)
      obtain ⟨M, hM⟩ := gw_over l d s W P S i hil hb
      have b1 := divInt_le_one hPi (by rw [← hM]; exact hgr.2)
      have b0 := divInt_nonneg' hPi (by rw [← hM]; exact hgr.1)
      have hq : Fits (gw l d (s - 2 ^ i)) := by rw [hM]; exact Fits.of_over hPi hP2 (Int.lt_of_lt_of_le (by decide) b0) (Int.lt_of_le_of_lt b1 hP2)
      have hT : Rat.divInt (rd l (i : Int)) (W : Int) * gw l d (s - 2 ^ i) = Rat.divInt (rd l (i : Int) * M) ((W * P : Nat) : Int) := by
        rw [hM, Rat.divInt_mul_divInt, Int.natCast_mul]
      have hTnn := term_nonneg (y := rd l (i : Int)) (W := (W : Int)) (Int.le_trans (by decide) hiw.1) hWi hgr.1
      have hT0 := divInt_nonneg' hE0 (by rw [← hT]; exact hTnn)
      have hsumE : Rat.divInt N ((W * P : Nat) : Int) + Rat.divInt (rd l (i : Int)) (W : Int) * gw l d (s - 2 ^ i) = Rat.divInt (N + rd l (i : Int) * M) ((W * P : Nat) : Int) := by
        rw [hT, divInt_sum]
      have hrn : 0 ≤ suf (sG l d s W) (i + 1) e := suf_nonneg _ _ (fun j _ hj => by
        unfold sG
        split
        · rename_i q
          obtain ⟨-, q2⟩ := less_at s h0 hs64 j (by omega) q
          have hpj : (0 : Int) < 2 ^ j := Int.pow_pos (by omega)
          have hjw := rd_ok l h j (by omega)
          exact term_nonneg (Int.le_trans (by decide) hjw.1) hWi (gw_rng l h d (s - 2 ^ j) (by omega) (by omega)).1
        · exact Rat.le_refl)
      rw [hs1, ← Rat.add_assoc] at hle ⊢
      have hNT := divInt_le_one hE0 (by
        rw [← hsumE]
        generalize suf (sG l d s W) (i + 1) e = A at hle hrn
        generalize Rat.divInt N ((W * P : Nat) : Int) + Rat.divInt (rd l (i : Int)) (W : Int) * gw l d (s - 2 ^ i) = B at hle
        clear hT hTnn hsumE hq hgr hM
        grind)
      have hnext := ihe (i + 1) hnx (N + rd l (i : Int) * M) (Int.add_nonneg hN hT0) (by rw [← hsumE]; exact hle)
      rw [← hsumE] at hnext
      have hst := pstep_ev (Rat.divInt N ((W * P : Nat) : Int)) (gw l d (s - 2 ^ i)) (rd l (i : Int)) (W : Int) N (rd l (i : Int) * M) ((W * P : Nat) : Int) hWi (Int.lt_of_le_of_lt hW54 (by decide)) (Int.le_trans (by decide) hiw.1) (Int.lt_of_le_of_lt hiw.2 (by decide)) hE0 hE2 rfl hT hN hT0 (Int.lt_of_le_of_lt hNT hE2) hq (g := fun k c' => packets_First1.l0 k l a b c ((i + 1 : Nat) : Int) c'.1 c'.2) hOf (ih i hil hb) hnext
      have hbb := hbo.trans hb
      refine Ev.succ (g := fun k => _) hst (fun k => ?_)
      have hii : (i : Int) + 1 = ((i + 1 : Nat) : Int) := rfl
      simp only [packets_First1.l0, if_pos hc1, HS.out, if_pos hbb, hii]
    · have hs0 : sG l d s W i = 0 := by unfold sG; rw [if_neg hb]
      rw [hs0, Rat.zero_add] at hle ⊢
      have hnext := ihe (i + 1) hnx N hN hle
      have hbb : ¬ Go.bits .and .i64 (shr .i64 s (i : Int)) 1 = 1 := fun q => hb (hbo.symm.trans q)
      refine Ev.succ (g := fun k => _) hnext (fun k => ?_)
      have hii : (i : Int) + 1 = ((i + 1 : Nat) : Int) := rfl
      simp only [packets_First1.l0, if_pos hc1, HS.out, if_neg hbb, hii]
/-! ### The sets that come -/
structure Sets (l : List Int) (a b m d : Nat) : Prop where
  m64 : m < 64
  d64 : d < 64
  or_ : Go.bits .or .i64 (a : Int) (b : Int) = (m : Int)
  not_ : Go.bits .andNot .i64 (b : Int) (a : Int) = (d : Int)
  mb : ∀ k : Nat, k < 6 → ((m : Int) / 2 ^ k) % 2 = if ((a : Int) / 2 ^ k) % 2 = 1 ∨ ((b : Int) / 2 ^ k) % 2 = 1 then 1 else 0
  db : ∀ k : Nat, k < 6 → ((d : Int) / 2 ^ k) % 2 = if ((b : Int) / 2 ^ k) % 2 = 1 ∧ ((a : Int) / 2 ^ k) % 2 = 0 then 1 else 0
  ml : (m : Int) < 2 ^ l.length
theorem Sets.of (l : List Int) (h : okW l = true) (a b : Nat) (ha : (a : Int) < 2 ^ l.length) (hb : (b : Int) < 2 ^ l.length) : ∃ m d : Nat, Sets l a b m d := by
  have hk := (okW_iff l).1 h
  have hp := pow_le l.length hk.2.1
  have ha64 : a < 64 := by omega
  have hb64 : b < 64 := by omega
  have ha' : a < 2 ^ l.length := by exact_mod_cast ha
  have hb' : b < 2 ^ l.length := by exact_mod_cast hb
  have ho := or_rng ⟨l.length, by omega⟩ ⟨a, ha'⟩ ⟨b, hb'⟩
  have hn := not_rng ⟨b, hb64⟩ ⟨a, ha64⟩
  dsimp only at ho hn
  obtain ⟨m, hm⟩ := Int.eq_ofNat_of_zero_le ho.1
  obtain ⟨d, hd⟩ := Int.eq_ofNat_of_zero_le hn.1
  rw [hm] at ho
  refine ⟨m, d, ⟨by have := ho.2; omega, by have := hn.2; omega, hm, hd, fun k hk6 => ?_, fun k hk6 => ?_, ho.2⟩⟩
  · rw [← hm]; exact or_tb ⟨a, ha64⟩ ⟨b, hb64⟩ ⟨k, hk6⟩
  · rw [← hd]; exact not_tb ⟨b, hb64⟩ ⟨a, ha64⟩ ⟨k, hk6⟩
theorem first1_ev (l : List Int) (h : okW l = true) (a b m d : Nat) (ha : (a : Int) < 2 ^ l.length) (hb : (b : Int) < 2 ^ l.length) (Q : Sets l a b m d) :
    ∀ (n c s : Nat), s = n → c < 64 → Go.bits .andNot .i64 (m : Int) (c : Int) = (s : Int) → Ev (fun k => packets_First1.f k l (a : Int) (b : Int) (c : Int)) (fr (gw l (d : Int) (s : Int))) := by
  have hk := (okW_iff l).1 h
  have hp := pow_le l.length hk.2.1
  have hlen := hk.2.1
  have ha64 : a < 64 := by omega
  have hb64 : b < 64 := by omega
  intro n
  induction n using Nat.strongRecOn with
  | ind n ih =>
  intro c s hn hc hs
  have hsr := not_rng ⟨m, Q.m64⟩ ⟨c, hc⟩
  dsimp only at hsr
  rw [hs] at hsr
  have hml := Q.ml
  have hs1 : (s : Int) < 2 ^ l.length := by omega
  have hsb : ∀ k : Nat, k < 6 → ((s : Int) / 2 ^ k) % 2 = if ((m : Int) / 2 ^ k) % 2 = 1 ∧ ((c : Int) / 2 ^ k) % 2 = 0 then 1 else 0 := fun k hk6 => by
    rw [← hs]; exact not_tb ⟨m, Q.m64⟩ ⟨c, hc⟩ ⟨k, hk6⟩
  have hcb : ∀ k : Nat, ((c : Int) / 2 ^ k) % 2 = 0 ∨ ((c : Int) / 2 ^ k) % 2 = 1 := fun k => by omega
  by_cases c1 : Go.bits .andNot .i64 (b : Int) (c : Int) = 0
  · have hz : gw l (d : Int) (s : Int) = 0 := gw_zero l _ _ (fun k hkl e1 e2 => by
      have hk6 : k < 6 := by omega
      have t := not_tb ⟨b, hb64⟩ ⟨c, hc⟩ ⟨k, hk6⟩
      dsimp only at t
      rw [c1, zero_tb ⟨k, hk6⟩] at t
      rw [hsb k hk6] at e1
      rw [Q.db k hk6] at e2
      split at e1
      · rename_i q1
        split at e2
        · rename_i q2
          rw [if_pos ⟨q2.1, q1.2⟩] at t
          omega
        · omega
      · omega)
    rw [hz]
    refine Ev.succ (g := fun _ => some (0, 1)) (Ev.const rfl) (fun k => by rw [packets_First1.f, if_pos c1])
  · obtain ⟨bc, hbc⟩ := Int.eq_ofNat_of_zero_le (not_rng ⟨b, hb64⟩ ⟨c, hc⟩).1
    have hbcr := (not_rng ⟨b, hb64⟩ ⟨c, hc⟩).2
    dsimp only at hbc hbcr
    rw [hbc] at hbcr
    obtain ⟨⟨k1, hk1⟩, hb1⟩ := some_bit ⟨bc, by omega⟩ (by intro e; apply c1; rw [hbc]; dsimp only at e; omega)
    dsimp only at hb1
    rw [← hbc] at hb1
    have t1 := not_tb ⟨b, hb64⟩ ⟨c, hc⟩ ⟨k1, hk1⟩
    dsimp only at t1
    rw [hb1] at t1
    have hs0 : 0 < (s : Int) := by
      have e1 := hsb k1 hk1
      split at t1
      · rename_i q
        have e2 := Q.mb k1 hk1
        rw [if_pos (.inr q.1)] at e2
        rw [if_pos ⟨e2, q.2⟩] at e1
        rcases Nat.eq_zero_or_pos s with e3 | e3
        · rw [e3] at e1
          have := zero_tb ⟨k1, hk1⟩
          dsimp only at this
          rw [show ((0 : Nat) : Int) = 0 from rfl] at e1
          omega
        · omega
      · omega
    by_cases c2 : Go.bits .andNot .i64 (a : Int) (c : Int) = 0
    · have ho : gw l (d : Int) (s : Int) = 1 := gw_one l h _ _ hs0 hs1 (fun k hkl e1 => by
        have hk6 : k < 6 := by omega
        have t := not_tb ⟨a, ha64⟩ ⟨c, hc⟩ ⟨k, hk6⟩
        dsimp only at t
        rw [c2, zero_tb ⟨k, hk6⟩] at t
        rw [hsb k hk6] at e1
        rw [Q.db k hk6]
        split at e1
        · rename_i q1
          have e2 := Q.mb k hk6
          rw [q1.1] at e2
          split at t
          · omega
          · rename_i q2
            have q3 : ¬ ((a : Int) / 2 ^ k) % 2 = 1 := fun e => q2 ⟨e, q1.2⟩
            split at e2
            · rename_i q4
              rcases q4 with q4 | q4
              · exact absurd q4 q3
              · rw [if_pos ⟨q4, by omega⟩]
            · omega
        · omega)
      rw [ho]
      refine Ev.succ (g := fun _ => some (1, 1)) (Ev.const rfl) (fun k => by rw [packets_First1.f, if_neg c1, if_pos c2])
    · obtain ⟨ac, hac⟩ := Int.eq_ofNat_of_zero_le (not_rng ⟨a, ha64⟩ ⟨c, hc⟩).1
      have hacr := (not_rng ⟨a, ha64⟩ ⟨c, hc⟩).2
      dsimp only at hac hacr
      rw [hac] at hacr
      obtain ⟨⟨k2, hk2⟩, hb2⟩ := some_bit ⟨ac, by omega⟩ (by intro e; apply c2; rw [hac]; dsimp only at e; omega)
      dsimp only at hb2
      rw [← hac] at hb2
      have t2 := not_tb ⟨a, ha64⟩ ⟨c, hc⟩ ⟨k2, hk2⟩
      dsimp only at t2
      rw [hb2] at t2
      obtain ⟨W, P, S⟩ := StepS.of l h (s : Int) hs0 hs1
      have hstep := gw_step l h (d : Int) (s : Int) (by omega) hs1 W P S (fun k hkl e1 e2 e3 => by
        have hk6 : k < 6 := by omega
        split at t2
        · rename_i q
          have e4 := Q.mb k2 hk2
          rw [if_pos (.inl q.1)] at e4
          have e5 := hsb k2 hk2
          rw [if_pos ⟨e4, q.2⟩, e3] at e5
          have e6 := pow_tb ⟨k, hk6⟩ ⟨k2, hk2⟩ e5
          have e7 : k = k2 := Fin.mk.inj e6
          rw [Q.db k hk6] at e2
          split at e2
          · rename_i q2
            have := q2.2
            rw [e7] at this
            omega
          · omega
        · omega)
      have hloop := first_loop l h (a : Int) (b : Int) (c : Int) (s : Int) (by rw [Q.or_]; exact hs) (by omega) hs1 (d : Int) W P S (fun i hil hbi => by
        have hi6 : i < 6 := by omega
        obtain ⟨r1, r2, r3⟩ := come_bit ⟨m, Q.m64⟩ ⟨c, hc⟩ ⟨i, hi6⟩ (by rw [hs]; exact hbi)
        dsimp only at r1 r2 r3
        rw [hs] at r3
        obtain ⟨-, hle2⟩ := less_at (s : Int) (by omega) (by omega) i hi6 hbi
        have hpi : (0 : Int) < 2 ^ i := Int.pow_pos (by omega)
        obtain ⟨s', hs'⟩ := Int.eq_ofNat_of_zero_le (show (0 : Int) ≤ (s : Int) - 2 ^ i by omega)
        rw [r1, hs']
        exact ih s' (by omega) (c + 2 ^ i) s' rfl r2 (by rw [r3, hs'])) l.length 0 (by omega) 0 (by omega) (by rw [hstep, Rat.zero_divInt, Rat.zero_add]; exact (gw_rng l h _ _ (by omega) hs1).2)
      rw [hstep, Rat.zero_divInt, Rat.zero_add] at hloop
      exact Ev.succ (g := fun k => packets_First1.l0 k l (a : Int) (b : Int) (c : Int) ((0 : Nat) : Int) (fr 0).1 (fr 0).2) hloop (fun k => by rw [packets_First1.f, if_neg c1, if_neg c2]; rfl)
theorem not_zero : ∀ m : Fin 64, Go.bits .andNot .i64 (m.val : Int) 0 = (m.val : Int) := by decide +kernel
theorem isSet2_ev (l : List Int) (a b : Int) : Ev (fun k => packets_weights_isSet.f k l [a, b]) (okS l a && okS l b) := by
  unfold packets_weights_isSet.f
  refine Ev.bind (valid_ev l) ?_
  unfold okS
  cases h : okW l with
  | false => exact Ev.ifNeg (by simp) (Ev.const rfl)
  | true =>
    refine Ev.ifPos rfl (Ev.const ?_)
    have e1 := noSet_ok l h a
    have e2 := noSet_ok l h b
    simp only [List.any_cons, List.any_nil, Bool.or_false, Bool.not_or, Bool.true_and] at e1 e2 ⊢
    rw [e1, e2]
theorem First_ev (l : List Int) (a b : Nat) (ha : okS l (a : Int) = true) (hb : okS l (b : Int) = true) (ha0 : a ≠ 0) (hb0 : b ≠ 0) (m d : Nat) (Q : Sets l a b m d) : Ev (fun k => packets_First.f k l (a : Int) (b : Int)) ((fr (gw l (d : Int) (m : Int))).1, (fr (gw l (d : Int) (m : Int))).2, 0) := by
  obtain ⟨h, a0, a1⟩ := (okS_iff l _).1 ha
  obtain ⟨-, b0, b1⟩ := (okS_iff l _).1 hb
  unfold packets_First.f
  refine Ev.bind (isSet2_ev l a b) ?_
  rw [ha, hb]
  have h1 := first1_ev l h a b m d a1 b1 Q m 0 m rfl (by decide) (not_zero ⟨m, Q.m64⟩)
  refine Ev.ifPos rfl (Ev.ifNeg (by omega) (Ev.ifNeg (by omega) (Ev.bind h1 (Ev.const rfl))))
theorem First_bad (l : List Int) (a b : Int) (hx : okS l a = false ∨ okS l b = false ∨ a = 0 ∨ b = 0) : Ev (fun k => packets_First.f k l a b) (0, 0, 2) := by
  unfold packets_First.f
  refine Ev.bind (isSet2_ev l a b) ?_
  cases ha : okS l a with
  | false => exact Ev.ifNeg (by simp) (Ev.const rfl)
  | true =>
    cases hb : okS l b with
    | false => exact Ev.ifNeg (by simp) (Ev.const rfl)
    | true =>
      refine Ev.ifPos rfl ?_
      by_cases e1 : a = 0
      · exact Ev.ifPos e1 (Ev.const rfl)
      · refine Ev.ifNeg e1 (Ev.ifPos ?_ (Ev.const rfl))
        rw [ha, hb] at hx
        simp only [Bool.true_eq_false, false_or, e1] at hx
        exact hx
end Go.Proofs.Ytigmhomfadimnaa.Pure
