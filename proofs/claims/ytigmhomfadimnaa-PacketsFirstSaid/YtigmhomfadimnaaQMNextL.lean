/- Plain laws of packets: the reference's Last. -/
import Derived.Test.YtigmhomfadimnaaQMNext
set_option linter.unusedVariables false
set_option linter.unusedSimpArgs false
namespace Go.Proofs.Ytigmhomfadimnaa.Pure
open Go.RowKit Go.Proofs.Ytigmhomfadimnaa.X Go.Proofs.YtigmhomfadimnaaW.PrintWords Go.Proofs.YtigmhomfadimnaaW.PrintLast Go.Proofs.YtigmhomfadimnaaW.PrintMore
/-- One round of Last that adds. -/
theorem last_step (l : List Int) (s : Int) (i0 i : Nat) (W E : Int) (v : Int × Int) (p q : Rat) (y N T : Int) (hy : 1 ≤ y ∧ y ≤ 9) (hi : (i : Int) < (l.length : Int)) (hlen : l.length ≤ 6) (hW : 0 < W) (hW2 : W ≤ 54) (hE0 : (0 : Int) < E) (hE2 : E < 9223372036854775808)
    (hry : rd l (i : Int) = y) (hand : Go.bits .andNot .i64 s (shl .i64 1 (i : Int)) = s - 2 ^ i) (hSum : Ev (fun k => comfitref04_Sum.f k l s) W) (hrec : Ev (fun k => comfitref04_Last.f k l (s - 2 ^ i) (i0 : Int)) (fr q))
    (hp : p = Rat.divInt N E) (hT : Rat.divInt y W * q = Rat.divInt T E) (hN : 0 ≤ N) (hT0 : 0 ≤ T) (hNT : N + T < 9223372036854775808) (hq : Fits q)
    (hnext : Ev (fun k => comfitref04_Last.l0 k l s (i0 : Int) l (l.length : Int) ((i + 1 : Nat) : Int) (fr (p + Rat.divInt y W * q)).1 (fr (p + Rat.divInt y W * q)).2) v) :
    Ev (fun k => comfitref04_Last.j1 k l s (i0 : Int) (i : Int) y l (l.length : Int) (i : Int) true (fr p).1 (fr p).2) v := by
  have hst := step_ev p q y W N T E hW (Int.lt_of_le_of_lt hW2 (by decide)) (Int.le_trans (by decide) hy.1) (Int.lt_of_le_of_lt hy.2 (by decide)) hE0 hE2 hp hT hN hT0 hNT hq (g := fun k c => comfitref04_Last.l0 k l s (i0 : Int) l (l.length : Int) ((i + 1 : Nat) : Int) c.1 c.2) hnext
  have hw1 : wrap64 ((i : Int) + 1) = ((i + 1 : Nat) : Int) := by clear hst hnext hrec hSum hT hp hq; rw [w_in (by omega) (by omega)]; omega
  obtain ⟨a, ha⟩ := hSum
  obtain ⟨b, hb⟩ := hrec
  obtain ⟨c, hc⟩ := hst
  refine ⟨a + b + c + 1, fun k hk => ?_⟩
  obtain ⟨m, rfl⟩ : ∃ m, k = m + 1 := ⟨k - 1, by omega⟩
  have ha' := ha m (by omega)
  have hb' := hb m (by omega)
  have hc' := hc m (by omega)
  dsimp only at ha' hb' hc'
  show comfitref04_Last.j1 (m + 1) l s (i0 : Int) (i : Int) y l (l.length : Int) (i : Int) true (fr p).1 (fr p).2 = some v
  have hpos : (0 : Int) ≤ (i : Int) := Int.natCast_nonneg i
  rw [comfitref04_Last.j1, if_pos rfl, ha', Option.bind_some]
  simp only [hpos, if_true]
  rw [hand, hb', hw1]
  simp only [Option.bind_some]
  exact hc'
theorem last_loop (l : List Int) (h : okW l = true) (s : Int) (h0 : 0 ≤ s) (h1 : s < 2 ^ l.length) (i0 : Nat) (hi0 : i0 < l.length) (hb0 : (s / 2 ^ i0) % 2 = 1) (W P : Nat) (S : LastS l s i0 W P)
    (ih : ∀ i : Nat, i < l.length → (s / 2 ^ i) % 2 = 1 → i ≠ i0 → Ev (fun k => comfitref04_Last.f k l (s - 2 ^ i) (i0 : Int)) (fr (lastR l (s - 2 ^ i) i0))) :
    ∀ (d i : Nat), i + d = l.length → ∀ N : Int, 0 ≤ N → Rat.divInt N ((W * P : Nat) : Int) + restL l s i0 W i d ≤ 1 →
      Ev (fun k => comfitref04_Last.l0 k l s (i0 : Int) l (l.length : Int) (i : Int) (fr (Rat.divInt N ((W * P : Nat) : Int))).1 (fr (Rat.divInt N ((W * P : Nat) : Int))).2) (fr (Rat.divInt N ((W * P : Nat) : Int) + restL l s i0 W i d)) := by
  have hk := (okW_iff l).1 h
  have hp := pow_le l.length hk.2.1
  have hlen := hk.2.1
  have hE0 : (0 : Int) < ((W * P : Nat) : Int) := by exact_mod_cast Nat.mul_pos S.w0 S.p0
  have hE2 : ((W * P : Nat) : Int) < 9223372036854775808 := by
    have hb := S.b
    generalize W * P = E at hb ⊢
    omega
  have hSum : Ev (fun k => comfitref04_Sum.f k l s) (W : Int) := (ref_Sum_ev l s h0 (by omega) hk.2.1).cast (by rw [S.w]; exact w_in (by omega) (by have := S.w54; omega))
  intro d
  induction d with
  | zero =>
    intro i hi N hN _
    refine Ev.succ (g := fun _ => some (fr (Rat.divInt N ((W * P : Nat) : Int)))) (Ev.const ?_) (fun k => by rw [comfitref04_Last.l0, if_neg (by omega)])
    unfold restL
    rw [ix, Rat.mul_zero, Rat.add_zero]
  | succ d ihd =>
    intro i hi N hN hle
    have hs64 : s < 64 := by clear hle; omega
    have hi6 : i < 6 := by clear hle; omega
    have hil : i < l.length := by clear hle; omega
    have hnx : i + 1 + d = l.length := by clear hle; omega
    have hWi : (0 : Int) < (W : Int) := Int.ofNat_lt.mpr S.w0
    have hW54 : (W : Int) ≤ 54 := by have := S.w54; clear hle; omega
    have hi06 : i0 < 6 := by clear hle; omega
    have hw1 : wrap64 ((i : Int) + 1) = ((i + 1 : Nat) : Int) := by rw [w_in (by clear hle; omega) (by clear hle; omega)]; clear hle; omega
    have HBO := Aside0.mk (bit_of s h0 hs64 i hi6)
    have hbit := bit_less s h0 hs64 i0 hi06 hb0 i hi6
    by_cases hb : ((s - 2 ^ i0) / 2 ^ i) % 2 = 1
    · rw [restL_yes l h s i0 W i d hil hb, ← Rat.add_assoc] at hle ⊢
      rw [hb] at hbit
      have hne : ¬ i = i0 := fun e => by rw [if_pos e] at hbit; omega
      rw [if_neg hne] at hbit
      have HAND := Aside0.mk (less_at s h0 hs64 i hi6 hbit.symm).1
      have hlr := lastR_le l h (s - 2 ^ i) i0 hi0
      obtain ⟨M, hM⟩ := S.term i hil hb
      have hPi : (0 : Int) < (P : Int) := Int.ofNat_lt.mpr S.p0
      have hP2 : (P : Int) < 9223372036854775808 := by
        have h3 : P ≤ W * P := Nat.le_mul_of_pos_left _ S.w0
        have h4 := Nat.lt_of_le_of_lt h3 S.b
        clear hle h3
        omega
      have hq : Fits (lastR l (s - 2 ^ i) i0) := by
        have b1 := divInt_le_one hPi (by rw [← hM]; exact hlr.1)
        have b0 := divInt_nonneg' hPi (by rw [← hM]; exact hlr.2)
        rw [hM]
        exact Fits.of_over hPi hP2 (Int.lt_of_lt_of_le (by decide) b0) (Int.lt_of_le_of_lt b1 hP2)
      have hT : Rat.divInt (rd l (i : Int)) (W : Int) * lastR l (s - 2 ^ i) i0 = Rat.divInt (rd l (i : Int) * M) ((W * P : Nat) : Int) := by
        rw [hM, Rat.divInt_mul_divInt, Int.natCast_mul]
      have hiw := rd_ok l h i hil
      have hTnn := term_nonneg (y := rd l (i : Int)) (W := (W : Int)) (Int.le_trans (by decide) hiw.1) hWi hlr.2
      have hT0 := divInt_nonneg' hE0 (by rw [← hT]; exact hTnn)
      have hsumE : Rat.divInt N ((W * P : Nat) : Int) + Rat.divInt (rd l (i : Int)) (W : Int) * lastR l (s - 2 ^ i) i0 = Rat.divInt (N + rd l (i : Int) * M) ((W * P : Nat) : Int) := by
        rw [hT, divInt_sum]
      have hrn := restL_nonneg l h s i0 W hi0 S.w0 d (i + 1) hnx
      have hNT := divInt_le_one hE0 (by
        rw [← hsumE]
        generalize restL l s i0 W (i + 1) d = A at hle hrn
        generalize Rat.divInt N ((W * P : Nat) : Int) + Rat.divInt (rd l (i : Int)) (W : Int) * lastR l (s - 2 ^ i) i0 = B at hle
        clear hT hTnn hsumE hq hlr hM
        grind)
      have hnext := ihd (i + 1) hnx (N + rd l (i : Int) * M) (Int.add_nonneg hN hT0) (by rw [← hsumE]; exact hle)
      rw [← hsumE] at hnext
      have hj1 := last_step l s i0 i (W : Int) ((W * P : Nat) : Int) _ (Rat.divInt N ((W * P : Nat) : Int)) (lastR l (s - 2 ^ i) i0) (rd l (i : Int)) N (rd l (i : Int) * M) hiw (Int.ofNat_lt.mpr hil) hlen hWi hW54 hE0 hE2 rfl (by rw [shl_ok i (Nat.le_of_lt hi6)]; exact HAND.out) hSum (ih i hil hbit.symm hne) rfl hT hN hT0 (Int.lt_of_le_of_lt hNT hE2) hq hnext
      refine Ev.succ (g := fun k => _) hj1 (fun k => ?_)
      have hc1 : (i : Int) < (l.length : Int) := Int.ofNat_lt.mpr hil
      have hc0 : (0 : Int) ≤ (i : Int) := Int.natCast_nonneg i
      have hbb := HBO.out.trans hbit.symm
      have hne2 : ((i : Int) != (i0 : Int)) = true := bne_iff_ne.mpr (fun e => hne (Int.ofNat.inj e))
      simp only [comfitref04_Last.l0, if_pos hc1, if_pos hc0, if_pos hbb, hne2]
    · rw [restL_no l s i0 W i d hb] at hle ⊢
      have hnext := ihd (i + 1) hnx N hN hle
      have hj1 : Ev (fun k => comfitref04_Last.j1 k l s (i0 : Int) (i : Int) (rd l (i : Int)) l (l.length : Int) (i : Int) false (fr (Rat.divInt N ((W * P : Nat) : Int))).1 (fr (Rat.divInt N ((W * P : Nat) : Int))).2) (fr (Rat.divInt N ((W * P : Nat) : Int) + restL l s i0 W (i + 1) d)) :=
        Ev.succ (g := fun k => _) hnext (fun k => by rw [comfitref04_Last.j1, if_neg (by decide), hw1])
      refine Ev.succ (g := fun k => _) hj1 (fun k => ?_)
      have hc1 : (i : Int) < (l.length : Int) := Int.ofNat_lt.mpr hil
      have hc0 : (0 : Int) ≤ (i : Int) := Int.natCast_nonneg i
      by_cases hbs : (s / 2 ^ i) % 2 = 1
      · have hie : i = i0 := by
          by_cases e : i = i0
          · exact e
          · rw [if_neg e] at hbit; exact absurd (hbit.trans hbs) hb
        have hbb := HBO.out.trans hbs
        have hne2 : ((i : Int) != (i0 : Int)) = false := bne_eq_false_iff_eq.mpr (by rw [hie])
        simp only [comfitref04_Last.l0, if_pos hc1, if_pos hc0, if_pos hbb, hne2]
      · have hbb : ¬ Go.bits .and .i64 (shr .i64 s (i : Int)) 1 = 1 := fun e => hbs (HBO.out.symm.trans e)
        simp only [comfitref04_Last.l0, if_pos hc1, if_pos hc0, if_neg hbb]
theorem refLast_ev (l : List Int) (h : okW l = true) : ∀ (n : Nat) (s : Int), s.toNat = n → 0 ≤ s → s < 2 ^ l.length → ∀ (i0 : Nat), i0 < l.length → (s / 2 ^ i0) % 2 = 1 → Ev (fun k => comfitref04_Last.f k l s (i0 : Int)) (fr (lastR l s i0)) := by
  intro n
  induction n using Nat.strongRecOn with
  | ind n ih =>
  intro s hn h0 h1 i0 hi0 hb0
  have hk := (okW_iff l).1 h
  have hp := pow_le l.length hk.2.1
  have hx := rd_ok l h i0 hi0
  obtain ⟨-, hle0⟩ := less_at s h0 (by omega) i0 (by have := hk.2.1; omega) hb0
  by_cases hs : s = 2 ^ i0
  · have e1 : lastR l s i0 = 1 := by
      have hx0 : (0 : Rat) < ((rd l (i0 : Int)).toNat : Rat) := by exact_mod_cast (show 0 < (rd l (i0 : Int)).toNat by omega)
      unfold lastR
      rw [hs, Int.sub_self, sub_zero2, ee, Rat.div_def, Rat.one_mul]
      exact Rat.mul_inv_cancel _ (by grind)
    rw [e1]
    refine Ev.succ (g := fun _ => some (1, 1)) (Ev.const rfl) (fun k => ?_)
    rw [comfitref04_Last.f, if_pos (by omega), shl_ok i0 (by have := hk.2.1; omega), if_pos hs]; rfl
  · have hne : sub l (s - 2 ^ i0) ≠ [] := fun e => by
      have := sub_nil2 l (s - 2 ^ i0) (by omega) (by have : (0 : Int) < 2 ^ i0 := Int.pow_pos (by omega); omega) e
      omega
    obtain ⟨W, P, S⟩ := LastS.of l h s h0 h1 i0 hi0 hb0
    have hloop := last_loop l h s h0 h1 i0 hi0 hb0 W P S (fun i hi hbi hii => by
      have hpi : (0 : Int) < 2 ^ i := Int.pow_pos (by omega)
      obtain ⟨-, hle2⟩ := less_at s h0 (by omega) i (by have := hk.2.1; omega) hbi
      refine ih (s - 2 ^ i).toNat (by omega) (s - 2 ^ i) rfl (by omega) (by omega) i0 hi0 ?_
      rw [bit_less s h0 (by omega) i (by have := hk.2.1; omega) hbi i0 (by have := hk.2.1; omega), if_neg (fun e => hii e.symm)]
      exact hb0) l.length 0 (by omega) 0 (by omega) (by rw [restL_all l h s i0 W hi0 S.ws hne, Rat.zero_divInt, Rat.zero_add]; exact (lastR_le l h s i0 hi0).1)
    rw [restL_all l h s i0 W hi0 S.ws hne, Rat.zero_divInt, Rat.zero_add] at hloop
    refine Ev.succ (g := fun k => comfitref04_Last.l0 k l s (i0 : Int) l (l.length : Int) ((0 : Nat) : Int) (fr 0).1 (fr 0).2) hloop (fun k => ?_)
    rw [comfitref04_Last.f, if_pos (by omega), shl_ok i0 (by have := hk.2.1; omega), if_neg hs]; rfl
end Go.Proofs.Ytigmhomfadimnaa.Pure
