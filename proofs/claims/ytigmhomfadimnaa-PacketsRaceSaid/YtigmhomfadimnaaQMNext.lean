/- Plain laws of packets: the reference's Last and Mean, by the kind that comes next. -/
import Derived.Test.YtigmhomfadimnaaQMProp
import Derived.Test.YtigmhomfadimnaaQMTimes
import Derived.Test.YtigmhomfadimnaaQX0
import Derived.Test.YtigmhomfadimnaaQXR
import Derived.Test.YtigmhomfadimnaaQXS
set_option linter.unusedVariables false
set_option linter.unusedSimpArgs false
namespace Go.Proofs.Ytigmhomfadimnaa.Pure
open Go.RowKit Go.Proofs.Ytigmhomfadimnaa.X Go.Proofs.YtigmhomfadimnaaW.PrintWords Go.Proofs.YtigmhomfadimnaaW.PrintLast Go.Proofs.YtigmhomfadimnaaW.PrintMore
/-! ### Sums over the kinds of a set -/
def gs (F : List Nat → Rat) : List Nat → List Nat → Rat
  | pre, [] => 0
  | pre, y :: post => (y : Rat) * F (pre ++ post) + gs F (pre ++ [y]) post
theorem rr_gs (c : Rat) : ∀ (post pre : List Nat), rr c pre post = gs (ee c) pre post := by
  intro post
  induction post with
  | nil => intro pre; rfl
  | cons y post ih => intro pre; rw [rr, gs, ih]
def ix (F : List Nat → Rat) (l : List Int) (s : Int) : Nat → Nat → Rat
  | _, 0 => 0
  | i, d + 1 => (if (s / 2 ^ i) % 2 = 1 then ((rd l (i : Int)).toNat : Rat) * F (sub l (s - 2 ^ i)) else 0) + ix F l s (i + 1) d
theorem ix_gs (F : List Nat → Rat) (hF : ∀ {m m' : List Nat}, m.Perm m' → F m = F m') (l : List Int) (s : Int) : ∀ (d i : Nat), i + d = l.length → ∀ pre : List Nat, (sub l s).Perm (pre ++ sub (l.drop i) (s / 2 ^ i)) → ix F l s i d = gs F pre (sub (l.drop i) (s / 2 ^ i)) := by
  intro d
  induction d with
  | zero =>
    intro i hi pre _
    rw [List.drop_of_length_le (by omega)]
    rfl
  | succ d ih =>
    intro i hi pre hp
    have hdr := rd_drop l i (by omega)
    have hdiv : s / 2 ^ i / 2 = s / 2 ^ (i + 1) := by rw [Int.pow_succ, ← Int.ediv_ediv_of_nonneg (Int.pow_nonneg (by omega))]
    rw [ix]
    rw [hdr, sub, hdiv] at hp ⊢
    by_cases hb : (s / 2 ^ i) % 2 = 1
    · rw [if_pos hb] at hp ⊢
      rw [if_pos hb, gs, ih (i + 1) (by omega) (pre ++ [(rd l (i : Int)).toNat]) (by rw [List.append_assoc]; exact hp)]
      congr 2
      refine hF ?_
      have h1 := (sub_minus l s i (by omega) hb).symm.trans (hp.trans List.perm_middle)
      exact (List.perm_cons _).1 h1
    · rw [if_neg hb] at hp ⊢
      rw [if_neg hb, Rat.zero_add]
      exact ih (i + 1) (by omega) pre hp
theorem ix_all (F : List Nat → Rat) (hF : ∀ {m m' : List Nat}, m.Perm m' → F m = F m') (l : List Int) (s : Int) : ix F l s 0 l.length = gs F [] (sub l s) := by
  have := ix_gs F hF l s l.length 0 (by omega) [] (by simp)
  simpa using this
theorem sub_zero2 : ∀ l : List Int, sub l 0 = [] := by
  intro l
  induction l with
  | nil => rfl
  | cons x l ih => rw [sub, if_neg (by omega), Int.zero_ediv, ih]
theorem sub_nil2 : ∀ (l : List Int) (s : Int), 0 ≤ s → s < 2 ^ l.length → sub l s = [] → s = 0 := by
  intro l
  induction l with
  | nil => intro s h0 h1 _; simp at h1; omega
  | cons x l ih =>
    intro s h0 h1 h
    rw [List.length_cons, Int.pow_succ] at h1
    rw [sub] at h
    split at h
    · cases h
    · have := ih (s / 2) (by omega) (by omega) h
      omega
theorem sums_more2 (y : Nat) (m : List Nat) (h : y ∈ sumsN m) (x : Nat) : y ∈ sumsN (x :: m) := by
  rw [sumsN, List.mem_flatMap]
  exact ⟨y, h, by simp⟩
theorem rsumN_sum : ∀ m : List Nat, rsumN m = ((m.sum : Nat) : Rat) := by
  intro m
  induction m with
  | nil => rfl
  | cons x m ih => rw [rsumN, ih, List.sum_cons]; push_cast; rfl
theorem wsum_sub : ∀ (l : List Int) (s : Int), (∀ x ∈ l, 1 ≤ x ∧ x ≤ 9) → 0 ≤ s → wsum l s = ((sub l s).sum : Int) := by
  intro l
  induction l with
  | nil => intro s _ _; rfl
  | cons x l ih =>
    intro s h h0
    have hx := h x (by simp)
    have h1 := ih (s / 2) (fun y hy => h y (by simp [hy])) (by omega)
    rw [wsum, sub, h1]
    by_cases hb : s % 2 = 1
    · rw [if_pos hb, hb, List.sum_cons]; push_cast; omega
    · rw [if_neg hb, show s % 2 = 0 by omega]; omega
theorem ee_P (P : Nat) (hP : 0 < P) (x : Nat) (z : List Nat) (h : ∀ c ∈ sumsN (x :: z), c = 0 ∨ c ∣ P) : ∃ N : Int, ee (x : Rat) z = Rat.divInt N P := by
  obtain ⟨N1, h1⟩ := mm_over P hP (x :: z) h
  obtain ⟨N2, h2⟩ := mm_over P hP z (fun c hc => h c (sums_more2 c z hc x))
  refine ⟨N1 - N2, ?_⟩
  have e : ee (x : Rat) z = mm (x :: z) - mm z := by rw [mm]; grind
  rw [e, h1, h2, Rat.divInt_eq_div, Rat.divInt_eq_div, Rat.divInt_eq_div, Rat.intCast_sub]
  grind
theorem bit_less_all : ∀ s : Fin 64, ∀ i : Fin 6, ((s.val : Int) / 2 ^ i.val) % 2 = 1 → ∀ j : Fin 6, (((s.val : Int) - 2 ^ i.val) / 2 ^ j.val) % 2 = if j.val = i.val then 0 else ((s.val : Int) / 2 ^ j.val) % 2 := by decide +kernel
theorem bit_less (s : Int) (h0 : 0 ≤ s) (h1 : s < 64) (i : Nat) (hi : i < 6) (hb : (s / 2 ^ i) % 2 = 1) (j : Nat) (hj : j < 6) : ((s - 2 ^ i) / 2 ^ j) % 2 = if j = i then 0 else (s / 2 ^ j) % 2 := by
  obtain ⟨n, rfl⟩ := Int.eq_ofNat_of_zero_le h0
  exact bit_less_all ⟨n, by omega⟩ ⟨i, hi⟩ hb ⟨j, hj⟩
theorem less_at (s : Int) (h0 : 0 ≤ s) (h1 : s < 64) (i : Nat) (hi : i < 6) (hb : (s / 2 ^ i) % 2 = 1) : Go.bits .andNot .i64 s (2 ^ i) = s - 2 ^ i ∧ (2 : Int) ^ i ≤ s := by
  obtain ⟨n, rfl⟩ := Int.eq_ofNat_of_zero_le h0
  exact without_dec ⟨n, by omega⟩ ⟨i, hi⟩ hb
theorem ratE_pos {E : Int} (hE : 0 < E) : (0 : Rat) < (E : Rat) := by exact_mod_cast hE
theorem divInt_le_one {N E : Int} (hE : 0 < E) (h : Rat.divInt N E ≤ 1) : N ≤ E := by
  have hE' := ratE_pos hE
  rw [Rat.divInt_eq_div] at h
  have h2 := Rat.mul_le_mul_of_nonneg_right h (Rat.le_of_lt hE')
  rw [Rat.div_def, Rat.mul_assoc, Rat.inv_mul_cancel _ (by grind), Rat.mul_one, Rat.one_mul] at h2
  exact_mod_cast h2
theorem divInt_nonneg' {N E : Int} (hE : 0 < E) (h : 0 ≤ Rat.divInt N E) : 0 ≤ N := by
  rw [Rat.divInt_eq_div] at h
  have hE' := ratE_pos hE
  have h2 := Rat.mul_nonneg h (Rat.le_of_lt hE')
  rw [Rat.div_def, Rat.mul_assoc, Rat.inv_mul_cancel _ (by grind), Rat.mul_one] at h2
  exact_mod_cast h2
theorem ee_le_one (x : Nat) (hx : 1 ≤ x) (m : List Nat) : (x : Rat) * ee (x : Rat) m ≤ 1 ∧ 0 ≤ (x : Rat) * ee (x : Rat) m := by
  have hx0 : (0 : Rat) < (x : Rat) := by exact_mod_cast hx
  have h2 := ee_more (x : Rat) hx0 [] m
  rw [List.append_nil, ee] at h2
  have h3 := Rat.mul_le_mul_of_nonneg_left h2 (Rat.le_of_lt hx0)
  have h4 : (x : Rat) * (1 / (x : Rat)) = 1 := by rw [Rat.div_def, Rat.one_mul]; exact Rat.mul_inv_cancel _ (by grind)
  exact ⟨by rw [h4] at h3; exact h3, Rat.mul_nonneg (Rat.le_of_lt hx0) (ee_nonneg _ _ (Nat.le_refl _) _ hx0)⟩
theorem lastR_le (l : List Int) (h : okW l = true) (s : Int) (i : Nat) (hi : i < l.length) : lastR l s i ≤ 1 ∧ 0 ≤ lastR l s i := by
  have := rd_ok l h i hi
  exact ee_le_one _ (by omega) _
theorem cast_toNat {x : Int} (h : 0 ≤ x) : ((x.toNat : Nat) : Rat) = ((x : Int) : Rat) := by
  conv => rhs; rw [← Int.toNat_of_nonneg h]
  rw [Rat.intCast_natCast]
/-- What is known of a set with a kind: over which number the terms of Last go. -/
structure LastS (l : List Int) (s : Int) (i0 W P : Nat) : Prop where
  w : wsum l s = (W : Int)
  w0 : 0 < W
  w54 : W ≤ 54
  p0 : 0 < P
  b : W * P < 9223372036854775808
  ws : W = (rd l (i0 : Int)).toNat + (sub l (s - 2 ^ i0)).sum
  term : ∀ i : Nat, i < l.length → ((s - 2 ^ i0) / 2 ^ i) % 2 = 1 → ∃ N : Int, lastR l (s - 2 ^ i) i0 = Rat.divInt N (P : Int)
theorem LastS.of (l : List Int) (h : okW l = true) (s : Int) (h0 : 0 ≤ s) (h1 : s < 2 ^ l.length) (i0 : Nat) (hi0 : i0 < l.length) (hb0 : (s / 2 ^ i0) % 2 = 1) : ∃ W P : Nat, LastS l s i0 W P := by
  have hk := (okW_iff l).1 h
  have hp := pow_le l.length hk.2.1
  have hx := rd_ok l h i0 hi0
  have hsub := sub_minus l s i0 hi0 hb0
  have hrange := sub_range l s hk.2.2
  obtain ⟨P, hP, hPb, hPd, -⟩ := good3 (sub l s) hrange.1 (by have := hrange.2.1; omega)
  have hW := wsum_sub l s hk.2.2 h0
  have hWp := sum_perm hsub
  rw [List.sum_cons] at hWp
  have hWb := wsum_bound l hk.2.2 s
  have hlen := hk.2.1
  refine ⟨(sub l s).sum, P, hW, by omega, by omega, hP, hPb, hWp, fun i hi hb => ?_⟩
  have hbit := bit_less s h0 (by omega) i0 (by omega) hb0 i (by omega)
  rw [hb] at hbit
  have hne : ¬ i = i0 := fun e => by rw [if_pos e] at hbit; omega
  rw [if_neg hne] at hbit
  have hb0' : ((s - 2 ^ i) / 2 ^ i0) % 2 = 1 := by
    rw [bit_less s h0 (by omega) i (by omega) hbit.symm i0 (by omega), if_neg (fun e => hne e.symm)]
    exact hb0
  have hz := sub_minus l (s - 2 ^ i) i0 hi0 hb0'
  have hmi := sub_minus l s i hi hbit.symm
  have hmem : (rd l (i : Int)).toNat ∈ sub l s := hmi.mem_iff.mpr (by simp)
  have hera := hmi.erase (rd l (i : Int)).toNat
  rw [List.erase_cons_head] at hera
  obtain ⟨Nz, hNz⟩ := ee_P P hP (rd l (i0 : Int)).toNat (sub l (s - 2 ^ i - 2 ^ i0)) (fun c hc => hPd _ hmem c ((sumsN_perm (hera.trans hz)).mem_iff.mpr hc))
  refine ⟨((rd l (i0 : Int)).toNat : Int) * Nz, ?_⟩
  unfold lastR
  rw [hNz, Rat.divInt_eq_div, Rat.divInt_eq_div, Rat.intCast_mul, Rat.intCast_natCast, Rat.intCast_natCast]
  rw [Rat.div_def, Rat.div_def, Rat.mul_assoc]
/-- What is still added from kind i on. -/
def restL (l : List Int) (s : Int) (i0 W i d : Nat) : Rat := ((rd l (i0 : Int)).toNat : Rat) / (W : Rat) * ix (ee ((rd l (i0 : Int)).toNat : Rat)) l (s - 2 ^ i0) i d
theorem restL_no (l : List Int) (s : Int) (i0 W i d : Nat) (hb : ¬ ((s - 2 ^ i0) / 2 ^ i) % 2 = 1) : restL l s i0 W i (d + 1) = restL l s i0 W (i + 1) d := by
  unfold restL
  rw [ix, if_neg hb, Rat.zero_add]
theorem restL_yes (l : List Int) (h : okW l = true) (s : Int) (i0 W i d : Nat) (hi : i < l.length) (hb : ((s - 2 ^ i0) / 2 ^ i) % 2 = 1) : restL l s i0 W i (d + 1) = Rat.divInt (rd l (i : Int)) (W : Int) * lastR l (s - 2 ^ i) i0 + restL l s i0 W (i + 1) d := by
  have hiw := rd_ok l h i hi
  unfold restL lastR
  rw [ix, if_pos hb, Rat.mul_add, show s - 2 ^ i - 2 ^ i0 = s - 2 ^ i0 - 2 ^ i by omega, Rat.divInt_eq_div, cast_toNat (show 0 ≤ rd l (i : Int) by omega), Rat.intCast_natCast]
  generalize ix _ _ _ _ _ = A
  generalize ee _ _ = B
  generalize ((rd l (i0 : Int)).toNat : Rat) = x
  generalize ((rd l (i : Int)) : Rat) = y
  generalize (W : Rat) = w
  rw [Rat.div_def, Rat.div_def]
  generalize w⁻¹ = v
  grind
theorem restL_all (l : List Int) (h : okW l = true) (s : Int) (i0 W : Nat) (hi0 : i0 < l.length) (hws : W = (rd l (i0 : Int)).toNat + (sub l (s - 2 ^ i0)).sum) (hne : sub l (s - 2 ^ i0) ≠ []) : restL l s i0 W 0 l.length = lastR l s i0 := by
  have hx := rd_ok l h i0 hi0
  unfold restL lastR
  rw [ix_all _ (fun hp => ee_perm hp _), ← rr_gs]
  have hid := ee_id (sub l (s - 2 ^ i0)) ((rd l (i0 : Int)).toNat : Rat) (by exact_mod_cast (show 0 < (rd l (i0 : Int)).toNat by omega))
  rw [if_neg hne, Rat.zero_add, rsumN_sum] at hid
  rw [← hid]
  have hWe : ((rd l (i0 : Int)).toNat : Rat) + (((sub l (s - 2 ^ i0)).sum : Nat) : Rat) = (W : Rat) := by rw [hws]; push_cast; rfl
  rw [hWe]
  have hW0 : (W : Rat) ≠ 0 := by
    have : (0 : Rat) < (W : Rat) := by exact_mod_cast (show 0 < W by omega)
    grind
  generalize ee _ _ = B
  generalize ((rd l (i0 : Int)).toNat : Rat) = x
  generalize (W : Rat) = w at hW0
  rw [Rat.div_def, Rat.mul_assoc, ← Rat.mul_assoc w⁻¹, Rat.inv_mul_cancel _ hW0, Rat.one_mul]
theorem term_nonneg {y W : Int} (hy : 0 ≤ y) (hW : 0 < W) {q : Rat} (hq : 0 ≤ q) : 0 ≤ Rat.divInt y W * q := by
  refine Rat.mul_nonneg ?_ hq
  rw [Rat.divInt_eq_div, Rat.div_def]
  exact Rat.mul_nonneg (by exact_mod_cast hy) (Rat.le_of_lt (Rat.inv_pos.2 (ratE_pos hW)))
end Go.Proofs.Ytigmhomfadimnaa.Pure
