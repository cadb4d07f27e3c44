/- Plain laws of packets: the reference's Mean. -/
import Derived.Test.YtigmhomfadimnaaQMNext
set_option linter.unusedVariables false
set_option linter.unusedSimpArgs false
namespace Go.Proofs.Ytigmhomfadimnaa.Pure
open Go.RowKit Go.Proofs.Ytigmhomfadimnaa.X Go.Proofs.YtigmhomfadimnaaW.PrintWords Go.Proofs.YtigmhomfadimnaaW.PrintLast Go.Proofs.YtigmhomfadimnaaW.PrintMore
theorem meanR_mm (l : List Int) (s : Int) : meanR l s = ((tot l).toNat : Rat) * mm (sub l s) := rs_mm _ _
theorem nat_rat_pos {n : Nat} (h : 0 < n) : (0 : Rat) < (n : Rat) := by exact_mod_cast h
/-- What is known of a set: over which number the terms of Mean go. -/
structure MeanS (l : List Int) (s : Int) (W E : Nat) : Prop where
  w : wsum l s = (W : Int)
  ws : (sub l s).sum = W
  w0 : 0 < W
  w54 : W ≤ 54
  e0 : 0 < E
  e63 : E < 9223372036854775808
  start : ∃ N : Int, Rat.divInt (tot l) (W : Int) = Rat.divInt N (E : Int)
  term : ∀ i : Nat, i < l.length → (s / 2 ^ i) % 2 = 1 → ∃ N : Int, Rat.divInt (rd l (i : Int)) (W : Int) * meanR l (s - 2 ^ i) = Rat.divInt N (E : Int)
  bound : meanR l s * (E : Rat) < 9223372036854775808
theorem MeanS.of (l : List Int) (h : okW l = true) (s : Int) (h0 : 0 < s) (h1 : s < 2 ^ l.length) : ∃ W E : Nat, MeanS l s W E := by
  have hk := (okW_iff l).1 h
  have hrange := sub_range l s hk.2.2
  obtain ⟨P, hP, hPb, hPd, hPh⟩ := good3 (sub l s) hrange.1 (by have := hrange.2.1; have := hk.2.1; omega)
  have hW := wsum_sub l s hk.2.2 (by omega)
  have hWp := wsum_pos l hk.2.2 s h0 h1
  have hWb := wsum_bound l hk.2.2 s
  have hlen := hk.2.1
  have ht := tot_bound l h
  have hts := wsum_all l
  have hmm : mm (sub l s) ≤ hh (sub l s) := mm_hh _ (fun x hx => (hrange.1 x hx).1)
  have htn : ((tot l).toNat : Int) = tot l := Int.toNat_of_nonneg (by omega)
  generalize hWn : (sub l s).sum = W at hW hPb hPh
  have hW0 : 0 < W := by omega
  have hWr := nat_rat_pos hW0
  have hPr := nat_rat_pos hP
  have hterm : ∀ i : Nat, i < l.length → (s / 2 ^ i) % 2 = 1 → ∃ N : Int, mm (sub l (s - 2 ^ i)) = Rat.divInt N (P : Int) := by
    intro i hi hb
    have hmi := sub_minus l s i hi hb
    have hmem : (rd l (i : Int)).toNat ∈ sub l s := hmi.mem_iff.mpr (by simp)
    have hera := hmi.erase (rd l (i : Int)).toNat
    rw [List.erase_cons_head] at hera
    exact mm_P P hP _ (fun c hc => hPd _ hmem c ((sumsN_perm hera).mem_iff.mpr hc))
  have hWi : (W : Int) ≠ 0 := by omega
  have hPi : (P : Int) ≠ 0 := by omega
  by_cases h6 : (sub l s).length = 6
  · have htW : tot l = (W : Int) := by have := hrange.2.1; have := hrange.2.2.1; have := hrange.2.2.2; omega
    refine ⟨W, P, hW, hWn, hW0, by omega, hP, Nat.lt_of_le_of_lt (Nat.le_mul_of_pos_left _ hW0) hPb, ⟨(P : Int), ?_⟩, fun i hi hb => ?_, ?_⟩
    · rw [htW, Rat.divInt_self' hWi, Rat.divInt_self' hPi]
    · obtain ⟨N, hN⟩ := hterm i hi hb
      refine ⟨rd l (i : Int) * N, ?_⟩
      rw [meanR_mm, hN, htW, Int.toNat_natCast, Rat.divInt_eq_div, Rat.divInt_eq_div, Rat.divInt_eq_div, Rat.intCast_mul, Rat.intCast_natCast]
      rw [Rat.div_def, Rat.div_def, Rat.div_def]
      generalize ((P : Int) : Rat)⁻¹ = p
      have hwi := Rat.mul_inv_cancel (W : Rat) (by grind)
      generalize (W : Rat)⁻¹ = v at hwi
      generalize (W : Rat) = w at hwi
      grind
    · rw [meanR_mm, htW, Int.toNat_natCast]
      rw [show cof W (6 - (sub l s).length) = 1 by rw [h6]; rfl, Nat.one_mul, Rat.natCast_mul] at hPh
      have h2 := Rat.mul_le_mul_of_nonneg_left hmm (Rat.le_of_lt (Rat.mul_pos hWr hPr))
      generalize hh (sub l s) = A at hPh h2
      generalize mm (sub l s) = B at h2
      generalize (W : Rat) = w at hPh h2
      generalize (P : Rat) = p at hPh h2
      grind
  · have hlt : (sub l s).length < 6 := by have := hrange.2.1; omega
    have htW : (tot l).toNat ≤ cof W (6 - (sub l s).length) := by
      rw [cof, if_neg (by omega)]
      have := hrange.2.1; have := hrange.2.2.1; have := hrange.2.2.2; omega
    have hE0 := Nat.mul_pos hW0 hP
    refine ⟨W, W * P, hW, hWn, hW0, by omega, hE0, hPb, ⟨tot l * (P : Int), ?_⟩, fun i hi hb => ?_, ?_⟩
    · rw [Int.natCast_mul, Rat.divInt_mul_right hPi]
    · obtain ⟨N, hN⟩ := hterm i hi hb
      refine ⟨rd l (i : Int) * (tot l * N), ?_⟩
      rw [meanR_mm, hN, Int.natCast_mul, ← Rat.divInt_mul_divInt]
      congr 1
      rw [cast_toNat (show 0 ≤ tot l by omega), Rat.divInt_eq_div, Rat.divInt_eq_div, Rat.intCast_mul, Rat.div_def, Rat.div_def, Rat.mul_assoc]
    · rw [meanR_mm]
      have h1' : ((tot l).toNat : Rat) ≤ (cof W (6 - (sub l s).length) : Nat) := by exact_mod_cast htW
      have hmn : 0 ≤ mm (sub l s) := mm_nonneg _ (fun x hx => (hrange.1 x hx).1)
      have hEr := nat_rat_pos hE0
      have ha := Rat.mul_le_mul_of_nonneg_right h1' (Rat.mul_nonneg hmn (Rat.le_of_lt hEr))
      have hc0 : (0 : Rat) ≤ ((cof W (6 - (sub l s).length) : Nat) : Rat) := by exact_mod_cast Nat.zero_le _
      have hb := Rat.mul_le_mul_of_nonneg_left hmm (Rat.mul_nonneg hc0 (Rat.le_of_lt hEr))
      rw [Rat.natCast_mul] at hPh
      generalize hh (sub l s) = A at hPh hb
      generalize mm (sub l s) = B at ha hb
      generalize ((W * P : Nat) : Rat) = e at hPh ha hb
      generalize ((cof W (6 - (sub l s).length) : Nat) : Rat) = c at hPh ha hb
      generalize ((tot l).toNat : Rat) = t at ha
      grind
/-- What is still added from kind i on. -/
def restM (l : List Int) (s : Int) (W i d : Nat) : Rat := ((tot l).toNat : Rat) / (W : Rat) * ix mm l s i d
theorem restM_nonneg (l : List Int) (h : okW l = true) (s : Int) (W : Nat) (hW : 0 < W) (d i : Nat) (hi : i + d = l.length) : 0 ≤ restM l s W i d := by
  have hk := (okW_iff l).1 h
  unfold restM
  refine Rat.mul_nonneg ?_ (ix_nonneg _ l s (fun j _ _ => mm_nonneg _ (fun x hx => ((sub_range l (s - 2 ^ j) hk.2.2).1 x hx).1)) d i hi)
  rw [Rat.div_def]
  exact Rat.mul_nonneg (by exact_mod_cast Nat.zero_le _) (Rat.le_of_lt (Rat.inv_pos.2 (nat_rat_pos hW)))
theorem restM_no (l : List Int) (s : Int) (W i d : Nat) (hb : ¬ (s / 2 ^ i) % 2 = 1) : restM l s W i (d + 1) = restM l s W (i + 1) d := by
  unfold restM
  rw [ix, if_neg hb, Rat.zero_add]
theorem restM_yes (l : List Int) (h : okW l = true) (s : Int) (W i d : Nat) (hi : i < l.length) (hb : (s / 2 ^ i) % 2 = 1) : restM l s W i (d + 1) = Rat.divInt (rd l (i : Int)) (W : Int) * meanR l (s - 2 ^ i) + restM l s W (i + 1) d := by
  have hiw := rd_ok l h i hi
  unfold restM
  rw [ix, if_pos hb, Rat.mul_add, meanR_mm, Rat.divInt_eq_div, cast_toNat (show 0 ≤ rd l (i : Int) by omega), Rat.intCast_natCast]
  generalize ix _ _ _ _ _ = A
  generalize mm _ = B
  generalize ((tot l).toNat : Rat) = x
  generalize ((rd l (i : Int)) : Rat) = y
  generalize (W : Rat) = w
  rw [Rat.div_def, Rat.div_def]
  generalize w⁻¹ = v
  grind
theorem restM_all (l : List Int) (h : okW l = true) (s : Int) (W : Nat) (hW : 0 < W) (hws : (sub l s).sum = W) : Rat.divInt (tot l) (W : Int) + restM l s W 0 l.length = meanR l s := by
  have hk := (okW_iff l).1 h
  have ht := tot_bound l h
  unfold restM
  rw [ix_all _ (fun hp => mm_perm hp), ← rrm_gs, meanR_mm]
  have hid := mm_id (sub l s) (fun x hx => ((sub_range l s hk.2.2).1 x hx).1)
  have hne : sub l s ≠ [] := fun e => by rw [e] at hws; simp at hws; omega
  rw [if_neg hne, rsumN_sum, hws] at hid
  have hW0 := nat_rat_pos hW
  have hwi := Rat.mul_inv_cancel (W : Rat) (by grind)
  rw [Rat.divInt_eq_div, ← cast_toNat (show 0 ≤ tot l by omega), Rat.intCast_natCast, Rat.div_def]
  generalize ((tot l).toNat : Rat) = t
  generalize rrm [] (sub l s) = R at hid
  generalize mm (sub l s) = B at hid
  generalize (W : Rat)⁻¹ = v at hwi
  generalize (W : Rat) = w at hid hwi
  grind
/-! ### The reference's table -/
def tb (q : Rat) : S25 := ⟨(fr q).1, (fr q).2⟩
theorem rd_set (x6 : List S25) (a b : Nat) (v : S25) (ha : a < x6.length) : rd_T25 (x6.set a v) (b : Int) = if b = a then v else rd_T25 x6 (b : Int) := by
  unfold rd_T25
  simp only [Int.toNat_natCast]
  by_cases e : b = a
  · rw [if_pos e, e]; simp [ha]
  · rw [if_neg e]; simp [List.getElem?_set, Ne.symm e]
structure Tab (l : List Int) (t : Nat) (x6 : List S25) : Prop where
  len : x6.length = 2 ^ l.length
  at_ : ∀ j : Nat, j < t → rd_T25 x6 (j : Int) = tb (meanR l (j : Int))
  fits : ∀ j : Nat, j < t → Fits (meanR l (j : Int))
theorem Tab.set {l : List Int} {t : Nat} {x6 : List S25} (h : Tab l t x6) (v : S25) (ht : t < 2 ^ l.length) : Tab l t (x6.set t v) :=
  ⟨by rw [List.length_set]; exact h.len, fun j hj => by rw [rd_set x6 t j v (by rw [h.len]; exact ht), if_neg (by omega)]; exact h.at_ j hj, h.fits⟩
/-- One round of Mean that adds. -/
theorem mean_step (l : List Int) (set s i : Nat) (W E : Int) (v : Int × Int) (p q : Rat) (y N T : Int) (x6 : List S25) (hy : 1 ≤ y ∧ y ≤ 9) (hi : (i : Int) < (l.length : Int)) (hlen : l.length ≤ 6) (hW : 0 < W) (hW2 : W ≤ 54) (hE0 : 0 < E) (hE2 : E < 9223372036854775808)
    (hsl : (s : Int) < (x6.length : Int)) (j : Nat) (hj : Go.bits .andNot .i64 (s : Int) (shl .i64 1 (i : Int)) = (j : Int)) (hjl : (j : Int) < (x6.length : Int)) (hry : rd l (i : Int) = y) (hbit : Go.bits .and .i64 (shr .i64 (s : Int) (i : Int)) 1 = 1) (hSum : Ev (fun k => comfitref04_Sum.f k l (s : Int)) W)
    (hp6 : rd_T25 x6 (s : Int) = tb p) (hq6 : rd_T25 x6 (j : Int) = tb q)
    (hp : p = Rat.divInt N E) (hT : Rat.divInt y W * q = Rat.divInt T E) (hN : 0 ≤ N) (hT0 : 0 ≤ T) (hNT : N + T < 9223372036854775808) (hq : Fits q)
    (hnext : Ev (fun k => comfitref04_Mean.l1 k l (set : Int) (tot l) (x6.set s (tb (p + Rat.divInt y W * q))) (s : Int) l (l.length : Int) ((i + 1 : Nat) : Int)) v) :
    Ev (fun k => comfitref04_Mean.l1 k l (set : Int) (tot l) x6 (s : Int) l (l.length : Int) (i : Int)) v := by
  have hst := step_ev p q y W N T E hW (Int.lt_of_le_of_lt hW2 (by decide)) (Int.le_trans (by decide) hy.1) (Int.lt_of_le_of_lt hy.2 (by decide)) hE0 hE2 hp hT hN hT0 hNT hq (g := fun k c => comfitref04_Mean.l1 k l (set : Int) (tot l) (x6.set s (⟨c.1, c.2⟩ : S25)) (s : Int) l (l.length : Int) ((i + 1 : Nat) : Int)) hnext
  have hw1 : wrap64 ((i : Int) + 1) = ((i + 1 : Nat) : Int) := by clear hst hnext hSum hT hp hq hbit hj hry; rw [w_in (by omega) (by omega)]; omega
  have hc0 : (0 : Int) ≤ (i : Int) := Int.natCast_nonneg i
  have hs0 : (0 : Int) ≤ (s : Int) := Int.natCast_nonneg s
  have hj0 : (0 : Int) ≤ (j : Int) := Int.natCast_nonneg j
  obtain ⟨a, ha⟩ := hSum
  obtain ⟨c, hc⟩ := hst
  refine ⟨a + c + 1, fun k hk => ?_⟩
  obtain ⟨m, rfl⟩ : ∃ m, k = m + 1 := ⟨k - 1, by clear hT hp hq hbit hj hry; omega⟩
  have ha' := ha m (by clear hT hp hq hbit hj hry; omega)
  have hc' := hc m (by clear hT hp hq hbit hj hry; omega)
  dsimp only at ha' hc'
  show comfitref04_Mean.l1 (m + 1) l (set : Int) (tot l) x6 (s : Int) l (l.length : Int) (i : Int) = some v
  simp only [comfitref04_Mean.l1, if_pos hi, if_pos hc0, if_pos hbit, if_pos hs0, if_pos hsl, ha', Option.bind_some, hj, if_pos hj0, if_pos hjl, hp6, hq6, hw1, hry, Int.toNat_natCast]
  exact hc'
theorem MeanS.most {l : List Int} {s : Int} {W E : Nat} (S : MeanS l s W E) {N : Int} (hN : Rat.divInt N (E : Int) ≤ meanR l s) : N < 9223372036854775808 := by
  have hE := nat_rat_pos S.e0
  have hb := S.bound
  rw [Rat.divInt_eq_div, Rat.intCast_natCast] at hN
  have h2 := Rat.mul_le_mul_of_nonneg_right hN (Rat.le_of_lt hE)
  rw [Rat.div_def, Rat.mul_assoc, Rat.inv_mul_cancel _ (by grind), Rat.mul_one] at h2
  have h3 : (N : Rat) < 9223372036854775808 := by
    generalize meanR l s * (E : Rat) = A at hb h2
    clear hN
    grind
  have h4 : ((N : Int) : Rat) < ((9223372036854775808 : Int) : Rat) := h3
  exact Rat.intCast_lt_intCast.mp h4
theorem meanR_zero (l : List Int) : meanR l 0 = 0 := by rw [meanR_mm, sub_zero2, mm, Rat.mul_zero]
theorem mean_loop (l : List Int) (h : okW l = true) (set s : Nat) (hs0 : 0 < s) (hs : (s : Int) < 2 ^ l.length) (W E : Nat) (S : MeanS l (s : Int) W E) (v : Int × Int)
    (hend : ∀ x6 : List S25, Tab l s x6 → rd_T25 x6 (s : Int) = tb (meanR l (s : Int)) → Fits (meanR l (s : Int)) → Ev (fun k => comfitref04_Mean.l0 k l (set : Int) (tot l) x6 ((s + 1 : Nat) : Int)) v) :
    ∀ (d i : Nat), i + d = l.length → ∀ (x6 : List S25) (N : Int), Tab l s x6 → rd_T25 x6 (s : Int) = tb (Rat.divInt N (E : Int)) → 0 ≤ N → Rat.divInt N (E : Int) + restM l (s : Int) W i d = meanR l (s : Int) →
      Ev (fun k => comfitref04_Mean.l1 k l (set : Int) (tot l) x6 (s : Int) l (l.length : Int) (i : Int)) v := by
  have hk := (okW_iff l).1 h
  have hp := pow_le l.length hk.2.1
  have hlen := hk.2.1
  have hs64 : (s : Int) < 64 := by omega
  have hE0 : (0 : Int) < (E : Int) := Int.ofNat_lt.mpr S.e0
  have hE2 : (E : Int) < 9223372036854775808 := by have := S.e63; omega
  have hWi : (0 : Int) < (W : Int) := Int.ofNat_lt.mpr S.w0
  have hW54 : (W : Int) ≤ 54 := by have := S.w54; omega
  have hsn : s < 2 ^ l.length := by exact_mod_cast hs
  have hSum : Ev (fun k => comfitref04_Sum.f k l (s : Int)) (W : Int) := (ref_Sum_ev l s (by omega) hs64 hlen).cast (by rw [S.w]; exact w_in (by omega) (by omega))
  intro d
  induction d with
  | zero =>
    intro i hi x6 N hT hx hN he
    have e : Rat.divInt N (E : Int) = meanR l (s : Int) := by rw [← he]; unfold restM; rw [ix, Rat.mul_zero, Rat.add_zero]
    have hm := S.most (N := N) (by rw [e]; exact Rat.le_refl)
    have hf : Fits (meanR l (s : Int)) := by rw [← e]; exact Fits.of_over hE0 hE2 (Int.lt_of_lt_of_le (by decide) hN) hm
    rw [e] at hx
    have hw : wrap64 ((s : Int) + 1) = ((s + 1 : Nat) : Int) := by clear he e hf; rw [w_in (by omega) (by omega)]; omega
    have hc : ¬ (i : Int) < (l.length : Int) := by clear he e hf; omega
    refine Ev.succ (g := fun k => _) (hend x6 hT hx hf) (fun k => ?_)
    simp only [comfitref04_Mean.l1, if_neg hc, hw]
  | succ d ihd =>
    intro i hi x6 N hT hx hN he
    have hil : i < l.length := by clear he; omega
    have hi6 : i < 6 := by clear he; omega
    have hnx : i + 1 + d = l.length := by clear he; omega
    have hc1 : (i : Int) < (l.length : Int) := Int.ofNat_lt.mpr hil
    have hc0 : (0 : Int) ≤ (i : Int) := Int.natCast_nonneg i
    have hw1 : wrap64 ((i : Int) + 1) = ((i + 1 : Nat) : Int) := by clear he; rw [w_in (by omega) (by omega)]; omega
    have HBO := Aside0.mk (bit_of (s : Int) (Int.natCast_nonneg s) hs64 i hi6)
    have hsl : (s : Int) < (x6.length : Int) := by rw [hT.len]; exact Int.ofNat_lt.mpr hsn
    by_cases hb : ((s : Int) / 2 ^ i) % 2 = 1
    · rw [restM_yes l h s W i d hil hb, ← Rat.add_assoc] at he
      obtain ⟨hand, hle⟩ := less_at (s : Int) (Int.natCast_nonneg s) hs64 i hi6 hb
      have hpi : (0 : Int) < 2 ^ i := Int.pow_pos (by omega)
      obtain ⟨j, hj⟩ : ∃ j : Nat, (s : Int) - 2 ^ i = (j : Int) := ⟨((s : Int) - 2 ^ i).toNat, (Int.toNat_of_nonneg (by clear he; omega)).symm⟩
      have hjs : j < s := by clear he; omega
      rw [hj] at hand he
      have HAND := Aside0.mk hand
      clear hand
      obtain ⟨M, hM⟩ := S.term i hil hb
      rw [hj] at hM
      have hq := hT.fits j hjs
      have hiw := rd_ok l h i hil
      have hmn : 0 ≤ meanR l (j : Int) := by
        rw [meanR_mm]
        exact Rat.mul_nonneg (by exact_mod_cast Nat.zero_le _) (mm_nonneg _ (fun x hx => ((sub_range l (j : Int) hk.2.2).1 x hx).1))
      have hTnn := term_nonneg (y := rd l (i : Int)) (W := (W : Int)) (Int.le_trans (by decide) hiw.1) hWi hmn
      have hT0 := divInt_nonneg' hE0 (by rw [← hM]; exact hTnn)
      have hsumE : Rat.divInt N (E : Int) + Rat.divInt (rd l (i : Int)) (W : Int) * meanR l (j : Int) = Rat.divInt (N + M) (E : Int) := by rw [hM, divInt_sum]
      have hrn := restM_nonneg l h (s : Int) W S.w0 d (i + 1) hnx
      have hNT := S.most (N := N + M) (by
        rw [← hsumE, ← he]
        generalize restM l (s : Int) W (i + 1) d = A at hrn
        generalize Rat.divInt N (E : Int) + Rat.divInt (rd l (i : Int)) (W : Int) * meanR l (j : Int) = B
        clear hTnn hsumE hq hM he
        grind)
      have hnext := ihd (i + 1) hnx (x6.set s (tb (Rat.divInt N (E : Int) + Rat.divInt (rd l (i : Int)) (W : Int) * meanR l (j : Int)))) (N + M) (hT.set _ hsn)
        (by rw [rd_set x6 s s _ (by rw [hT.len]; exact hsn), if_pos rfl, hsumE]) (Int.add_nonneg hN hT0) (by rw [← hsumE]; exact he)
      exact mean_step l set s i (W : Int) (E : Int) v _ _ _ N M x6 hiw hc1 hlen hWi hW54 hE0 hE2 hsl j (by rw [shl_ok i (Nat.le_of_lt hi6)]; exact HAND.out) (by rw [hT.len]; exact Int.ofNat_lt.mpr (Nat.lt_trans hjs hsn)) rfl (HBO.out.trans hb) hSum hx (hT.at_ j hjs) rfl hM hN hT0 hNT hq hnext
    · rw [restM_no l s W i d hb] at he
      have hnext := ihd (i + 1) hnx x6 N hT hx hN he
      have hbb : ¬ Go.bits .and .i64 (shr .i64 (s : Int) (i : Int)) 1 = 1 := fun e => hb (HBO.out.symm.trans e)
      refine Ev.succ (g := fun k => _) hnext (fun k => ?_)
      simp only [comfitref04_Mean.l1, if_pos hc1, if_pos hc0, if_neg hbb, hw1]
theorem mean_l0 (l : List Int) (h : okW l = true) (set : Nat) (hset : (set : Int) < 2 ^ l.length) : ∀ (d t : Nat), t + d = set + 1 → 0 < t → ∀ x6 : List S25, Tab l t x6 → Ev (fun k => comfitref04_Mean.l0 k l (set : Int) (tot l) x6 (t : Int)) (fr (meanR l (set : Int))) := by
  have hk := (okW_iff l).1 h
  have hp := pow_le l.length hk.2.1
  have ht := tot_bound l h
  have hsn : set < 2 ^ l.length := by exact_mod_cast hset
  intro d
  induction d with
  | zero =>
    intro t htd h0 x6 hT
    have e := hT.at_ set (by omega)
    have hc : ¬ (t : Int) ≤ (set : Int) := by omega
    have hc2 : (0 : Int) ≤ (set : Int) := Int.natCast_nonneg set
    have hc3 : (set : Int) < (x6.length : Int) := by rw [hT.len]; exact Int.ofNat_lt.mpr hsn
    refine Ev.succ (g := fun _ => some (fr (meanR l (set : Int)))) (Ev.const rfl) (fun k => ?_)
    simp only [comfitref04_Mean.l0, if_neg hc, if_pos hc2, if_pos hc3, e]
    rfl
  | succ d ih =>
    intro t htd h0 x6 hT
    have htn : t < 2 ^ l.length := by omega
    have htI : (t : Int) < 2 ^ l.length := by exact_mod_cast htn
    obtain ⟨W, E, S⟩ := MeanS.of l h (t : Int) (by omega) htI
    have hW54 := S.w54
    have hW0 := S.w0
    have hSum : Ev (fun k => comfitref04_Sum.f k l (t : Int)) (W : Int) := (ref_Sum_ev l t (by omega) (by omega) hk.2.1).cast (by rw [S.w]; exact w_in (by omega) (by omega))
    obtain ⟨N0, hN0⟩ := S.start
    have hE0 : (0 : Int) < (E : Int) := Int.ofNat_lt.mpr S.e0
    have hN0n : 0 ≤ N0 := divInt_nonneg' hE0 (by
      rw [← hN0]
      have := term_nonneg (y := tot l) (W := (W : Int)) (by omega) (by omega) (q := 1) (by decide)
      rw [Rat.mul_one] at this
      exact this)
    have hF := ref_frac_ev (tot l) (W : Int) (by omega) (by omega) (by omega) (by omega)
    have hloop := mean_loop l h set t h0 htI W E S (fr (meanR l (set : Int))) (fun x6' hT' hx' hf' => by
      refine ih (t + 1) (by omega) (by omega) x6' ⟨hT'.len, fun j hj => ?_, fun j hj => ?_⟩
      · by_cases e : j = t
        · rw [e]; exact hx'
        · exact hT'.at_ j (by omega)
      · by_cases e : j = t
        · rw [e]; exact hf'
        · exact hT'.fits j (by omega)) l.length 0 (by omega) (x6.set t (tb (Rat.divInt (tot l) (W : Int)))) N0 (hT.set _ htn) (by rw [rd_set x6 t t _ (by rw [hT.len]; exact htn), if_pos rfl, hN0]) hN0n (by rw [← hN0]; exact restM_all l h (t : Int) W S.w0 S.ws)
    have hc : (t : Int) ≤ (set : Int) := by omega
    have hc2 : (0 : Int) ≤ (t : Int) := Int.natCast_nonneg t
    have hc3 : (t : Int) < (x6.length : Int) := by rw [hT.len]; exact Int.ofNat_lt.mpr htn
    have hb := Ev.bind hSum (f := fun k t261 => (comfitref04_frac.f k (tot l) t261).bind fun bt262 => comfitref04_Mean.l1 k l (set : Int) (tot l) (x6.set t (⟨bt262.1, bt262.2⟩ : S25)) (t : Int) l (l.length : Int) 0) (Ev.bind hF hloop)
    refine Ev.succ (g := fun k => _) hb (fun k => ?_)
    simp only [comfitref04_Mean.l0, if_pos hc, if_pos hc2, if_pos hc3, Int.toNat_natCast]
theorem refMean_ev (l : List Int) (h : okW l = true) (s : Int) (h0 : 0 ≤ s) (h1 : s < 2 ^ l.length) : Ev (fun k => comfitref04_Mean.f k l s) (fr (meanR l s)) := by
  have hk := (okW_iff l).1 h
  have hp := pow_le l.length hk.2.1
  have ht := tot_bound l h
  obtain ⟨n, rfl⟩ := Int.eq_ofNat_of_zero_le h0
  have hpn : 0 < 2 ^ l.length := Nat.pow_pos (by omega)
  have hT : Tab l 1 ((List.replicate (2 ^ l.length) z25).set 0 (⟨0, 1⟩ : S25)) := by
    refine ⟨by simp, fun j hj => ?_, fun j hj => ?_⟩
    · obtain rfl : j = 0 := by omega
      rw [rd_set _ 0 0 _ (by simp; exact hpn), if_pos rfl]
      show (⟨0, 1⟩ : S25) = tb (meanR l ((0 : Nat) : Int))
      rw [show ((0 : Nat) : Int) = 0 from rfl, meanR_zero]; rfl
    · obtain rfl : j = 0 := by omega
      rw [show ((0 : Nat) : Int) = 0 from rfl, meanR_zero]
      exact ⟨by decide, by decide, by decide⟩
  have hl0 := mean_l0 l h n h1 n 1 (by omega) (by omega) _ hT
  have hSum : Ev (fun k => comfitref04_Sum.f k l (wrap64 (shl .i64 1 (l.length : Int) - 1))) (tot l) := by
    rw [shl_ok l.length hk.2.1, w_in (by omega) (by omega)]
    exact (ref_Sum_ev l _ (by omega) (by omega) hk.2.1).cast (w_in (by unfold tot at ht; omega) (by unfold tot at ht; omega))
  unfold comfitref04_Mean.f
  refine Ev.bind hSum ?_
  rw [shl_ok l.length hk.2.1]
  have e2 : ((2 : Int) ^ l.length).toNat = 2 ^ l.length := by
    rw [show ((2 : Int) ^ l.length) = ((2 ^ l.length : Nat) : Int) by push_cast; rfl, Int.toNat_natCast]
  have hle : 2 ^ l.length ≤ 64 := by
    have : ((2 ^ l.length : Nat) : Int) ≤ 64 := by push_cast; exact hp.1
    omega
  refine Ev.ifPos (by omega) (Ev.ifPos (by rw [e2]; omega) ?_)
  rw [e2]
  refine Ev.bind (g := fun _ => some _) (Ev.const rfl) (Ev.bind (g := fun _ => some _) (Ev.const rfl) (Ev.ifPos (by rw [List.length_replicate]; omega) hl0))
end Go.Proofs.Ytigmhomfadimnaa.Pure
