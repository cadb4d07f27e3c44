/- Plain laws of packets: the chance that one set is there before another one. -/
import Derived.Test.YtigmhomfadimnaaQMNext
set_option linter.unusedVariables false
set_option linter.unusedSimpArgs false
namespace Go.Proofs.Ytigmhomfadimnaa.Pure
open Go.RowKit Go.Proofs.Ytigmhomfadimnaa.X Go.Proofs.YtigmhomfadimnaaW.PrintWords Go.Proofs.YtigmhomfadimnaaW.PrintLast Go.Proofs.YtigmhomfadimnaaW.PrintMore
/-! ### Sums over the kinds -/
def suf (f : Nat → Rat) : Nat → Nat → Rat
  | _, 0 => 0
  | i, d + 1 => f i + suf f (i + 1) d
theorem suf_congr {f g : Nat → Rat} : ∀ (d i : Nat), (∀ j, i ≤ j → j < i + d → f j = g j) → suf f i d = suf g i d := by
  intro d
  induction d with
  | zero => intro i _; rfl
  | succ d ih => intro i h; rw [suf, suf, h i (Nat.le_refl _) (by omega), ih (i + 1) (fun j h1 h2 => h j (by omega) (by omega))]
theorem suf_zero : ∀ (d i : Nat), suf (fun _ => 0) i d = 0 := by
  intro d
  induction d with
  | zero => intro i; rfl
  | succ d ih => intro i; rw [suf, ih, Rat.add_zero]
theorem suf_add (f g : Nat → Rat) : ∀ (d i : Nat), suf (fun j => f j + g j) i d = suf f i d + suf g i d := by
  intro d
  induction d with
  | zero => intro i; simp only [suf]; grind
  | succ d ih => intro i; rw [suf, suf, suf, ih]; grind
theorem suf_mul (c : Rat) (f : Nat → Rat) : ∀ (d i : Nat), suf (fun j => c * f j) i d = c * suf f i d := by
  intro d
  induction d with
  | zero => intro i; simp [suf]
  | succ d ih => intro i; rw [suf, suf, ih]; grind
theorem suf_swap (T : Nat → Nat → Rat) (i2 d2 : Nat) : ∀ (d i : Nat), suf (fun j => suf (T j) i2 d2) i d = suf (fun k => suf (fun j => T j k) i d) i2 d2 := by
  intro d
  induction d with
  | zero => intro i; simp only [suf]; exact (suf_zero d2 i2).symm
  | succ d ih => intro i; simp only [suf]; rw [ih, ← suf_add]
theorem suf_nonneg {f : Nat → Rat} : ∀ (d i : Nat), (∀ j, i ≤ j → j < i + d → 0 ≤ f j) → 0 ≤ suf f i d := by
  intro d
  induction d with
  | zero => intro i _; exact Rat.le_refl
  | succ d ih => intro i h; rw [suf]; exact Rat.add_nonneg (h i (Nat.le_refl _) (by omega)) (ih (i + 1) (fun j h1 h2 => h j (by omega) (by omega)))
theorem suf_le {f g : Nat → Rat} : ∀ (d i : Nat), (∀ j, i ≤ j → j < i + d → f j ≤ g j) → suf f i d ≤ suf g i d := by
  intro d
  induction d with
  | zero => intro i _; exact Rat.le_refl
  | succ d ih =>
    intro i h
    have h1 := h i (Nat.le_refl _) (by omega)
    have h2 := ih (i + 1) (fun j h1 h2 => h j (by omega) (by omega))
    rw [suf, suf]
    grind
/-! ### Bits -/
theorem or_tb : ∀ a : Fin 64, ∀ b : Fin 64, ∀ k : Fin 6, (Go.bits .or .i64 (a.val : Int) (b.val : Int) / 2 ^ k.val) % 2 = if ((a.val : Int) / 2 ^ k.val) % 2 = 1 ∨ ((b.val : Int) / 2 ^ k.val) % 2 = 1 then 1 else 0 := by decide +kernel
theorem not_tb : ∀ a : Fin 64, ∀ b : Fin 64, ∀ k : Fin 6, (Go.bits .andNot .i64 (a.val : Int) (b.val : Int) / 2 ^ k.val) % 2 = if ((a.val : Int) / 2 ^ k.val) % 2 = 1 ∧ ((b.val : Int) / 2 ^ k.val) % 2 = 0 then 1 else 0 := by decide +kernel
theorem not_rng : ∀ a : Fin 64, ∀ b : Fin 64, 0 ≤ Go.bits .andNot .i64 (a.val : Int) (b.val : Int) ∧ Go.bits .andNot .i64 (a.val : Int) (b.val : Int) ≤ a.val := by decide +kernel
theorem or_rng : ∀ n : Fin 7, ∀ a : Fin (2 ^ n.val), ∀ b : Fin (2 ^ n.val), 0 ≤ Go.bits .or .i64 (a.val : Int) (b.val : Int) ∧ Go.bits .or .i64 (a.val : Int) (b.val : Int) < 2 ^ n.val := by decide +kernel
theorem some_bit : ∀ a : Fin 64, a.val ≠ 0 → ∃ k : Fin 6, ((a.val : Int) / 2 ^ k.val) % 2 = 1 := by decide +kernel
theorem come_bit : ∀ m : Fin 64, ∀ c : Fin 64, ∀ i : Fin 6, (Go.bits .andNot .i64 (m.val : Int) (c.val : Int) / 2 ^ i.val) % 2 = 1 → Go.bits .or .i64 (c.val : Int) (shl .i64 1 (i.val : Int)) = ((c.val + 2 ^ i.val : Nat) : Int) ∧ c.val + 2 ^ i.val < 64 ∧ Go.bits .andNot .i64 (m.val : Int) ((c.val + 2 ^ i.val : Nat) : Int) = Go.bits .andNot .i64 (m.val : Int) (c.val : Int) - 2 ^ i.val := by decide +kernel
theorem zero_tb : ∀ k : Fin 6, ((0 : Int) / 2 ^ k.val) % 2 = 0 := by decide +kernel
theorem pow_tb : ∀ k : Fin 6, ∀ j : Fin 6, ((2 : Int) ^ k.val / 2 ^ j.val) % 2 = 1 → k = j := by decide +kernel
/-! ### All that may be last -/
theorem suf_ll (l : List Int) (s : Int) : ∀ (d i : Nat), i + d = l.length → ∀ pre : List Nat, (sub l s).Perm (pre ++ sub (l.drop i) (s / 2 ^ i)) → suf (fun k => if (s / 2 ^ k) % 2 = 1 then lastR l s k else 0) i d = ll 0 pre (sub (l.drop i) (s / 2 ^ i)) := by
  intro d
  induction d with
  | zero =>
    intro i hi pre _
    rw [List.drop_of_length_le (by omega)]
    rfl
  | succ d ih =>
    intro i hi pre hp
    have hdr := rd_drop l i (by omega)
    have hdiv : s / 2 ^ i / 2 = s / 2 ^ (i + 1) := by rw [Int.pow_succ, ← Int.ediv_ediv_of_nonneg (Int.pow_nonneg (by omega))]
    rw [suf]
    rw [hdr, sub, hdiv] at hp ⊢
    by_cases hb : (s / 2 ^ i) % 2 = 1
    · rw [if_pos hb] at hp ⊢
      rw [if_pos hb, ll, Rat.zero_add, ih (i + 1) (by omega) (pre ++ [(rd l (i : Int)).toNat]) (by rw [List.append_assoc]; exact hp)]
      congr 1
      unfold lastR
      congr 1
      refine ee_perm ?_ _
      have h1 := (sub_minus l s i (by omega) hb).symm.trans (hp.trans List.perm_middle)
      exact (List.perm_cons _).1 h1
    · rw [if_neg hb] at hp ⊢
      rw [if_neg hb, Rat.zero_add]
      exact ih (i + 1) (by omega) pre hp
theorem suf_one (l : List Int) (h : okW l = true) (s : Int) (h0 : 0 ≤ s) (h1 : s < 2 ^ l.length) : suf (fun k => if (s / 2 ^ k) % 2 = 1 then lastR l s k else 0) 0 l.length = if s = 0 then 0 else 1 := by
  have hk := (okW_iff l).1 h
  have hr := sub_range l s hk.2.2
  have := suf_ll l s l.length 0 (by omega) [] (by simp)
  rw [this]
  simp only [Int.pow_zero, Int.ediv_one, List.drop_zero]
  rw [ll_one _ (fun x hx => (hr.1 x hx).1)]
  by_cases hs : s = 0
  · subst hs
    rw [sub_zero2]
    rfl
  · rw [if_neg hs, if_neg (fun h => hs (sub_nil2 l s h0 h1 h))]
theorem suf_over (P : Int) (f : Nat → Rat) : ∀ (d i : Nat), (∀ j, i ≤ j → j < i + d → ∃ N : Int, f j = Rat.divInt N P) → ∃ N : Int, suf f i d = Rat.divInt N P := by
  intro d
  induction d with
  | zero => intro i _; exact ⟨0, by rw [suf, Rat.zero_divInt]⟩
  | succ d ih =>
    intro i h
    obtain ⟨A, hA⟩ := h i (Nat.le_refl _) (by omega)
    obtain ⟨B, hB⟩ := ih (i + 1) (fun j h1 h2 => h j (by omega) (by omega))
    exact ⟨A + B, by rw [suf, hA, hB, divInt_sum]⟩
/-- What is known of a set: over which number the chances of its lesser parts go. -/
structure StepS (l : List Int) (s : Int) (W P : Nat) : Prop where
  w : wsum l s = (W : Int)
  w0 : 0 < W
  w54 : W ≤ 54
  p0 : 0 < P
  b : W * P < 9223372036854775808
  ws : ∀ i : Nat, i < l.length → (s / 2 ^ i) % 2 = 1 → W = (rd l (i : Int)).toNat + (sub l (s - 2 ^ i)).sum
  term : ∀ i : Nat, i < l.length → (s / 2 ^ i) % 2 = 1 → ∀ k : Nat, k < l.length → ((s - 2 ^ i) / 2 ^ k) % 2 = 1 → ∃ N : Int, lastR l (s - 2 ^ i) k = Rat.divInt N (P : Int)
theorem StepS.of (l : List Int) (h : okW l = true) (s : Int) (h0 : 0 < s) (h1 : s < 2 ^ l.length) : ∃ W P : Nat, StepS l s W P := by
  have hk := (okW_iff l).1 h
  have hp := pow_le l.length hk.2.1
  have hrange := sub_range l s hk.2.2
  obtain ⟨P, hP, hPb, hPd, -⟩ := good3 (sub l s) hrange.1 (by have := hrange.2.1; omega)
  have hW := wsum_sub l s hk.2.2 (by omega)
  have hpos := wsum_pos l hk.2.2 s h0 h1
  have hWb := wsum_bound l hk.2.2 s
  have hlen := hk.2.1
  refine ⟨(sub l s).sum, P, hW, by omega, by omega, hP, hPb, fun i0 hi0 hb0 => ?_, fun i hi hb k hki hbk => ?_⟩
  · have := sum_perm (sub_minus l s i0 hi0 hb0)
    rw [List.sum_cons] at this
    exact this
  · have hmi := sub_minus l s i hi hb
    have hz := sub_minus l (s - 2 ^ i) k hki hbk
    have hmem : (rd l (i : Int)).toNat ∈ sub l s := hmi.mem_iff.mpr (by simp)
    have hera := hmi.erase (rd l (i : Int)).toNat
    rw [List.erase_cons_head] at hera
    obtain ⟨Nz, hNz⟩ := ee_P P hP (rd l (k : Int)).toNat (sub l (s - 2 ^ i - 2 ^ k)) (fun c hc => hPd _ hmem c ((sumsN_perm (hera.trans hz)).mem_iff.mpr hc))
    refine ⟨((rd l (k : Int)).toNat : Int) * Nz, ?_⟩
    unfold lastR
    rw [hNz, Rat.divInt_eq_div, Rat.divInt_eq_div, Rat.intCast_mul, Rat.intCast_natCast, Rat.intCast_natCast]
    rw [Rat.div_def, Rat.div_def, Rat.mul_assoc]
/-! ### The chance that the last one of s is of d -/
def gF (l : List Int) (d s : Int) (k : Nat) : Rat := if (s / 2 ^ k) % 2 = 1 ∧ (d / 2 ^ k) % 2 = 1 then lastR l s k else 0
def gw (l : List Int) (d s : Int) : Rat := suf (gF l d s) 0 l.length
theorem gF_rng (l : List Int) (h : okW l = true) (d s : Int) (k : Nat) (hk : k < l.length) : 0 ≤ gF l d s k ∧ gF l d s k ≤ if (s / 2 ^ k) % 2 = 1 then lastR l s k else 0 := by
  have hr := lastR_le l h s k hk
  unfold gF
  by_cases h1 : (s / 2 ^ k) % 2 = 1
  · by_cases h2 : (d / 2 ^ k) % 2 = 1
    · rw [if_pos ⟨h1, h2⟩, if_pos h1]; exact ⟨hr.2, Rat.le_refl⟩
    · rw [if_neg (fun e => h2 e.2), if_pos h1]; exact ⟨Rat.le_refl, hr.2⟩
  · rw [if_neg (fun e => h1 e.1), if_neg h1]; exact ⟨Rat.le_refl, Rat.le_refl⟩
theorem gw_rng (l : List Int) (h : okW l = true) (d s : Int) (h0 : 0 ≤ s) (h1 : s < 2 ^ l.length) : 0 ≤ gw l d s ∧ gw l d s ≤ 1 := by
  refine ⟨suf_nonneg _ _ (fun j _ hj => (gF_rng l h d s j (by omega)).1), ?_⟩
  have h2 := suf_le (f := gF l d s) (g := fun k => if (s / 2 ^ k) % 2 = 1 then lastR l s k else 0) l.length 0 (fun j _ hj => (gF_rng l h d s j (by omega)).2)
  rw [suf_one l h s h0 h1] at h2
  refine Rat.le_trans h2 ?_
  split
  · decide
  · exact Rat.le_refl
theorem gw_zero (l : List Int) (d s : Int) (h : ∀ k, k < l.length → (s / 2 ^ k) % 2 = 1 → ¬ (d / 2 ^ k) % 2 = 1) : gw l d s = 0 := by
  unfold gw
  rw [suf_congr (g := fun _ => 0) l.length 0 (fun j _ hj => by unfold gF; rw [if_neg (fun e => h j (by omega) e.1 e.2)])]
  exact suf_zero _ _
theorem gw_one (l : List Int) (h : okW l = true) (d s : Int) (h0 : 0 < s) (h1 : s < 2 ^ l.length) (hd : ∀ k, k < l.length → (s / 2 ^ k) % 2 = 1 → (d / 2 ^ k) % 2 = 1) : gw l d s = 1 := by
  unfold gw
  rw [suf_congr (g := fun k => if (s / 2 ^ k) % 2 = 1 then lastR l s k else 0) l.length 0 (fun j _ hj => by
    unfold gF
    by_cases e : (s / 2 ^ j) % 2 = 1
    · rw [if_pos ⟨e, hd j (by omega) e⟩, if_pos e]
    · rw [if_neg (fun q => e q.1), if_neg e])]
  rw [suf_one l h s (by omega) h1, if_neg (by omega)]
theorem gw_over (l : List Int) (d s : Int) (W P : Nat) (S : StepS l s W P) (i : Nat) (hi : i < l.length) (hb : (s / 2 ^ i) % 2 = 1) : ∃ N : Int, gw l d (s - 2 ^ i) = Rat.divInt N (P : Int) := by
  refine suf_over _ _ _ _ (fun j _ hj => ?_)
  unfold gF
  split
  · rename_i e
    exact S.term i hi hb j (by omega) e.1
  · exact ⟨0, by rw [Rat.zero_divInt]⟩
theorem restL_suf (l : List Int) (h : okW l = true) (s : Int) (k W : Nat) : ∀ (e i : Nat), i + e = l.length → restL l s k W i e = suf (fun j => if ((s - 2 ^ k) / 2 ^ j) % 2 = 1 then Rat.divInt (rd l (j : Int)) (W : Int) * lastR l (s - 2 ^ j) k else 0) i e := by
  intro e
  induction e with
  | zero => intro i _; unfold restL; rw [ix, Rat.mul_zero, suf]
  | succ e ih =>
    intro i hi
    rw [suf]
    by_cases hb : ((s - 2 ^ k) / 2 ^ i) % 2 = 1
    · rw [if_pos hb, restL_yes l h s k W i e (by omega) hb, ih (i + 1) (by omega)]
    · rw [if_neg hb, restL_no l s k W i e hb, ih (i + 1) (by omega), Rat.zero_add]
/-- One packet more. -/
def sG (l : List Int) (d s : Int) (W : Nat) (j : Nat) : Rat := if (s / 2 ^ j) % 2 = 1 then Rat.divInt (rd l (j : Int)) (W : Int) * gw l d (s - 2 ^ j) else 0
theorem gw_step (l : List Int) (h : okW l = true) (d s : Int) (h0 : 0 ≤ s) (h1 : s < 2 ^ l.length) (W P : Nat) (S : StepS l s W P) (hne : ∀ k, k < l.length → (s / 2 ^ k) % 2 = 1 → (d / 2 ^ k) % 2 = 1 → s ≠ 2 ^ k) : suf (sG l d s W) 0 l.length = gw l d s := by
  have hk := (okW_iff l).1 h
  have hp := pow_le l.length hk.2.1
  have hlen := hk.2.1
  have e1 : suf (sG l d s W) 0 l.length = suf (fun j => suf (fun k => if (s / 2 ^ j) % 2 = 1 then Rat.divInt (rd l (j : Int)) (W : Int) * gF l d (s - 2 ^ j) k else 0) 0 l.length) 0 l.length := by
    refine suf_congr _ _ (fun j _ hj => ?_)
    unfold sG
    by_cases e : (s / 2 ^ j) % 2 = 1
    · rw [if_pos e]
      unfold gw
      rw [← suf_mul]
      exact suf_congr _ _ (fun k _ _ => by rw [if_pos e])
    · rw [if_neg e]
      exact ((suf_congr (g := fun _ => 0) _ _ (fun k _ _ => by rw [if_neg e])).trans (suf_zero _ _)).symm
  rw [e1, suf_swap]
  unfold gw
  refine suf_congr _ _ (fun k _ hkl => ?_)
  have hk6 : k < 6 := by omega
  by_cases hsd : (s / 2 ^ k) % 2 = 1 ∧ (d / 2 ^ k) % 2 = 1
  · have hg : gF l d s k = lastR l s k := by unfold gF; rw [if_pos hsd]
    obtain ⟨-, hle⟩ := less_at s h0 (by omega) k hk6 hsd.1
    have hsne := hne k (by omega) hsd.1 hsd.2
    have hse : sub l (s - 2 ^ k) ≠ [] := fun e => by
      have := sub_nil2 l (s - 2 ^ k) (by omega) (by have : (0 : Int) < 2 ^ k := Int.pow_pos (by omega); omega) e
      omega
    rw [hg, ← restL_all l h s k W (by omega) (S.ws k (by omega) hsd.1) hse, restL_suf l h s k W _ 0 (by omega)]
    refine suf_congr _ _ (fun j _ hj => ?_)
    have hj6 : j < 6 := by omega
    have hb1 := bit_less s h0 (by omega) k hk6 hsd.1 j hj6
    by_cases e : (s / 2 ^ j) % 2 = 1
    · have hb2 := bit_less s h0 (by omega) j hj6 e k hk6
      rw [if_pos e]
      by_cases ejk : j = k
      · rw [if_pos ejk] at hb1
        rw [if_pos ejk.symm] at hb2
        rw [if_neg (by rw [hb1]; decide)]
        unfold gF
        rw [if_neg (fun q => by have := q.1; omega), Rat.mul_zero]
      · rw [if_neg ejk] at hb1
        rw [if_neg (fun q => ejk q.symm)] at hb2
        rw [if_pos (by rw [hb1]; exact e)]
        unfold gF
        rw [if_pos ⟨by rw [hb2]; exact hsd.1, hsd.2⟩]
    · rw [if_neg e, if_neg (fun q => ?_)]
      rw [q] at hb1
      split at hb1
      · omega
      · exact e hb1.symm
  · have hg : gF l d s k = 0 := by unfold gF; rw [if_neg hsd]
    rw [hg]
    refine (suf_congr (g := fun _ => 0) _ _ (fun j _ hj => ?_)).trans (suf_zero _ _)
    split
    · rename_i e
      have hb2 := bit_less s h0 (by omega) j (by omega) e k hk6
      unfold gF
      rw [if_neg (fun q => ?_), Rat.mul_zero]
      have q1 := q.1
      rw [hb2] at q1
      split at q1
      · omega
      · exact hsd ⟨q1, q.2⟩
    · rfl
end Go.Proofs.Ytigmhomfadimnaa.Pure
