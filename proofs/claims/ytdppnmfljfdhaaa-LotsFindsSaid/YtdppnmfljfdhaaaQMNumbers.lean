/- Plain laws: the reference's table, and Taken and Looks of both. -/
import Derived.Test.YtdppnmfljfdhaaaQMTaken
import Derived.Test.YtdppnmfljfdhaaaQXcomfitref02numbers
set_option linter.unusedVariables false
set_option linter.unusedSimpArgs false
namespace Go.Proofs.Ytdppnmfljfdhaaa.Pure
open Go.RowKit Go.Proofs.Ytdppnmfljfdhaaa.X Go.Proofs.YtdppnmfljfdhaaaW.PrintWords Go.Proofs.YtdppnmfljfdhaaaW.PrintLast Go.Proofs.YtdppnmfljfdhaaaW.PrintMore

/-! ### Rows told by a function -/
def rowOf (m : Nat) (g : Nat → Int) : List Int := (List.range m).map g
theorem rowOf_length (m : Nat) (g : Nat → Int) : (rowOf m g).length = m := by simp [rowOf]
theorem rowOf_rd (m : Nat) (g : Nat → Int) (i : Nat) (h : i < m) : rd (rowOf m g) (i : Int) = g i := by
  unfold rd rowOf
  simp [h]
theorem rowOf_set (m : Nat) (g : Nat → Int) (i : Nat) (v : Int) : (rowOf m g).set i v = rowOf m (fun b => if b = i then v else g b) := by
  unfold rowOf
  refine List.ext_getElem (by simp) (fun j h1 h2 => ?_)
  rw [List.getElem_set]
  simp only [List.getElem_map, List.getElem_range]
  by_cases e : i = j
  · rw [if_pos e, if_pos e.symm]
  · rw [if_neg e, if_neg (fun h => e h.symm)]
theorem rowOf_congr (m : Nat) (g g' : Nat → Int) (h : ∀ b, b < m → g b = g' b) : rowOf m g = rowOf m g' := by
  unfold rowOf
  exact List.map_congr_left (fun b hb => h b (List.mem_range.1 hb))
theorem rowOf_replicate (m : Nat) : List.replicate m (0 : Int) = rowOf m (fun _ => 0) := by
  unfold rowOf
  refine List.ext_getElem (by simp) (fun j h1 h2 => by simp)

section
variable {l0 l1 : List Int} {y o : Int}
def pv (M : Nat → Int) (y : Int) (j : Nat) : Nat → Int
  | 0 => 0
  | c + 1 => if c < j then M c * y else 0
/-- What of one more item is laid when the first j places have come. -/
def pt (M : Nat → Int) (y o : Int) (j b : Nat) : Int := (if b < j then M b * (o - y) else 0) + pv M y j b
theorem pt_zero (M : Nat → Int) (y o : Int) (b : Nat) : pt M y o 0 b = 0 := by unfold pt; cases b <;> simp [pv]
theorem pt_end (M : Nat → Int) (y o : Int) (j b : Nat) (h : b < j) : pt M y o j b = nxm y o M b := by
  unfold pt
  cases b with
  | zero => rw [if_pos h]; simp [nxm, pv]
  | succ c => rw [if_pos h]; simp only [nxm, pv]; rw [if_pos (by omega)]
theorem pt_step (M : Nat → Int) (y o : Int) (j b : Nat) : pt M y o (j + 1) b = pt M y o j b + (if b = j then M j * (o - y) else if b = j + 1 then M j * y else 0) := by
  unfold pt
  cases b with
  | zero =>
    simp only [pv]
    by_cases h : 0 = j
    · subst h; simp
    · have h1 : (0 : Nat) < j := by omega
      have h2 : (0 : Nat) < j + 1 := by omega
      have h3 : ¬ (0 : Nat) = j + 1 := by omega
      simp only [h, h1, h2, h3, if_true, if_false]
      omega
  | succ c =>
    simp only [pv]
    rcases Nat.lt_trichotomy (c + 1) j with h | h | h
    · have h1 : c < j := by omega
      have h2 : c < j + 1 := by omega
      have h3 : c + 1 < j + 1 := by omega
      have h4 : ¬ c + 1 = j := by omega
      have h5 : ¬ c + 1 = j + 1 := by omega
      simp only [h, h1, h2, h3, h4, h5, if_true, if_false]
      omega
    · have h1 : c < j := by omega
      have h2 : c < j + 1 := by omega
      have h3 : c + 1 < j + 1 := by omega
      have h4 : ¬ c + 1 < j := by omega
      rw [if_pos h3, if_pos h2, if_neg h4, if_pos h1, if_pos h, h]
      omega
    · by_cases h5 : c = j
      · subst h5
        have h3 : ¬ c + 1 < c + 1 := by omega
        have h4 : ¬ c + 1 < c := by omega
        have h6 : ¬ c < c := by omega
        have h7 : ¬ c + 1 = c := by omega
        rw [if_neg h3, if_pos (by omega : c < c + 1), if_neg h4, if_neg h6, if_neg h7, if_pos rfl]
        omega
      · have h1 : ¬ c < j := by omega
        have h2 : ¬ c < j + 1 := by omega
        have h3 : ¬ c + 1 < j + 1 := by omega
        have h4 : ¬ c + 1 < j := by omega
        have h6 : ¬ c + 1 = j := by omega
        have h7 : ¬ c + 1 = j + 1 := by omega
        rw [if_neg h3, if_neg h2, if_neg h4, if_neg h1, if_neg h6, if_neg h7]
        omega
theorem w_zero_add {a m : Int} (h : wrap64 m = 0) (c : Int) : wrap64 (a + m * c) = wrap64 a := by
  have h1 : m % 18446744073709551616 = 0 := by have := w_emod m; rw [h] at this; omega
  apply w_eq
  rw [Int.add_emod, Int.mul_emod, h1]
  simp
/-- The first inner loop: from place j on. -/
theorem num_l1 (M : Nat → Int) (n K : Nat) (t rest : Int) (R : Int × Int) (hn : n ≤ 12) (H : ∀ s9 : Int, Ev (fun k => comfitref02_numbers.l2 k n t (wrap64 (s9 + sI (fun b => M b * o * rest) (n + 1))) K (rowOf (n + 1) (fun b => wrap64 (nxm y o M b))) (wrap64 rest) ((n : Int) + 1) 0 l0 l1 y o) (R.1, R.2) → True) :
    ∀ d j : Nat, j + d = n + 1 → ∀ s9 : Int, Ev (fun k => comfitref02_numbers.l2 k n t (wrap64 (s9 + sI (fun b => M b * o * rest) (n + 1))) K (rowOf (n + 1) (fun b => wrap64 (nxm y o M b))) (wrap64 rest) ((n : Int) + 1) 0 l0 l1 y o) (R.1, R.2) →
      Ev (fun k => comfitref02_numbers.l1 k n t (wrap64 (s9 + sI (fun b => M b * o * rest) j)) K (rowOf (n + 1) (fun b => wrap64 (pt M y o j b))) (wrap64 rest) (rowOf (n + 1) (fun b => wrap64 (M b))) ((n : Int) + 1) j l0 l1 y o) (R.1, R.2) := by
  intro d
  induction d with
  | zero =>
    intro j hj s9 h2
    obtain rfl : j = n + 1 := by omega
    have e : rowOf (n + 1) (fun b => wrap64 (pt M y o (n + 1) b)) = rowOf (n + 1) (fun b => wrap64 (nxm y o M b)) := rowOf_congr _ _ _ (fun b hb => by rw [pt_end M y o _ b hb])
    rw [e]
    refine Ev.succ h2 (fun k => ?_)
    rw [comfitref02_numbers.l1, if_neg (by omega), rowOf_length]
    rfl
  | succ d ih =>
    intro j hj s9 h2
    have hI := ih (j + 1) (by omega) s9 h2
    have e2 : wrap64 ((j : Int) + 1) = ((j + 1 : Nat) : Int) := by rw [w_in (by omega) (by omega)]; omega
    have hsum : sI (fun b => M b * o * rest) (j + 1) = sI (fun b => M b * o * rest) j + M j * o * rest := rfl
    refine Ev.succ hI (fun k => ?_)
    rw [comfitref02_numbers.l1, if_pos (by omega), if_pos (by omega), if_pos (by rw [rowOf_length]; omega), rowOf_rd _ _ _ (by omega)]
    by_cases hz : wrap64 (M j) = 0
    · rw [if_pos hz, e2]
      have es : wrap64 (s9 + sI (fun b => M b * o * rest) (j + 1)) = wrap64 (s9 + sI (fun b => M b * o * rest) j) := by
        rw [hsum, ← Int.add_assoc, Int.mul_assoc]
        exact w_zero_add hz _
      have er : rowOf (n + 1) (fun b => wrap64 (pt M y o (j + 1) b)) = rowOf (n + 1) (fun b => wrap64 (pt M y o j b)) := rowOf_congr _ _ _ (fun b _ => by
        rw [pt_step]
        split
        · exact w_zero_add hz _
        · split
          · exact w_zero_add hz _
          · rw [Int.add_zero])
      rw [es, er]
    · rw [if_neg hz, if_pos (by rw [rowOf_length]; omega)]
      simp only [Option.bind_some]
      have e9 : wrap64 (wrap64 (s9 + sI (fun b => M b * o * rest) j) + wrap64 (wrap64 (wrap64 (M j) * o) * wrap64 rest)) = wrap64 (s9 + sI (fun b => M b * o * rest) (j + 1)) := by
        rw [hsum, w_mull (M j), w_mul, w_add, Int.add_assoc]
      have es1 : (rowOf (n + 1) (fun b => wrap64 (pt M y o j b))).set ((j : Int)).toNat (wrap64 (rd (rowOf (n + 1) (fun b => wrap64 (pt M y o j b))) j + wrap64 (wrap64 (M j) * wrap64 (o - y)))) = rowOf (n + 1) (fun b => if b = j then wrap64 (pt M y o j j + M j * (o - y)) else wrap64 (pt M y o j b)) := by
        rw [rowOf_rd _ _ _ (by omega), show ((j : Int)).toNat = j by omega, rowOf_set, w_mul, w_add]
      rw [e2, e9, es1]
      by_cases hjn : (j : Int) < n
      · rw [if_pos hjn, if_pos (by omega), if_pos (by rw [rowOf_length]; omega)]
        have es2 : (rowOf (n + 1) (fun b => if b = j then wrap64 (pt M y o j j + M j * (o - y)) else wrap64 (pt M y o j b))).set (((j + 1 : Nat) : Int)).toNat (wrap64 (rd (rowOf (n + 1) (fun b => if b = j then wrap64 (pt M y o j j + M j * (o - y)) else wrap64 (pt M y o j b))) ((j + 1 : Nat) : Int) + wrap64 (wrap64 (M j) * y))) = rowOf (n + 1) (fun b => wrap64 (pt M y o (j + 1) b)) := by
          rw [rowOf_rd _ _ _ (by omega), show (((j + 1 : Nat) : Int)).toNat = j + 1 by omega, rowOf_set, w_mull]
          refine rowOf_congr _ _ _ (fun b _ => ?_)
          rw [pt_step]
          by_cases h1 : b = j + 1
          · subst h1
            rw [if_pos rfl, if_neg (by omega), if_neg (by omega), if_pos rfl, w_add]
          · rw [if_neg h1]
            by_cases h2 : b = j
            · subst h2; rw [if_pos rfl, if_pos rfl]
            · rw [if_neg h2, if_neg h2, if_neg h1, Int.add_zero]
        rw [es2]
      · rw [if_neg hjn]
        have es3 : rowOf (n + 1) (fun b => if b = j then wrap64 (pt M y o j j + M j * (o - y)) else wrap64 (pt M y o j b)) = rowOf (n + 1) (fun b => wrap64 (pt M y o (j + 1) b)) := rowOf_congr _ _ _ (fun b hb => by
          rw [pt_step]
          by_cases h2 : b = j
          · subst h2; rw [if_pos rfl, if_pos rfl]
          · rw [if_neg h2, if_neg h2, if_neg (by omega), Int.add_zero])
        rw [es3]
/-- The second inner loop: what is taken, what is left, of the first j places. -/
theorem num_l2 (h : Ok l0 l1) (M : Nat → Int) (k : Nat) (hk : k < l0.length) (s9 rest : Int) (R : Int × Int) :
    ∀ d j : Nat, j + d = l0.length + 1 → ∀ s8 : Int,
      Ev (fun r => comfitref02_numbers.l0 r l0.length (rowOf (l0.length + 1) (fun b => wrap64 (if aft l0 l1 ((k : Int) + 1) b ≠ 0 then 0 else nxm y o M b))) (wrap64 (s8 + sI (fun b => if aft l0 l1 ((k : Int) + 1) b = 1 then nxm y o M b * rest else 0) (l0.length + 1))) s9 ((k : Int) + 1 + 1) l0 l1 y o) R →
      Ev (fun r => comfitref02_numbers.l2 r l0.length (wrap64 (s8 + sI (fun b => if aft l0 l1 ((k : Int) + 1) b = 1 then nxm y o M b * rest else 0) j)) s9 ((k : Int) + 1) (rowOf (l0.length + 1) (fun b => wrap64 (if b < j ∧ aft l0 l1 ((k : Int) + 1) b ≠ 0 then 0 else nxm y o M b))) (wrap64 rest) ((l0.length : Int) + 1) j l0 l1 y o) R := by
  have hm := h.most
  have hs := h.same
  have e1 : wrap64 ((k : Int) + 1 - 1) = (k : Int) := by rw [w_in (by omega) (by omega)]; omega
  intro d
  induction d with
  | zero =>
    intro j hj s8 h0
    obtain rfl : j = l0.length + 1 := by omega
    have e : rowOf (l0.length + 1) (fun b => wrap64 (if b < l0.length + 1 ∧ aft l0 l1 ((k : Int) + 1) b ≠ 0 then 0 else nxm y o M b)) = rowOf (l0.length + 1) (fun b => wrap64 (if aft l0 l1 ((k : Int) + 1) b ≠ 0 then 0 else nxm y o M b)) := rowOf_congr _ _ _ (fun b hb => by
      by_cases ha : aft l0 l1 ((k : Int) + 1) b ≠ 0
      · rw [if_pos ⟨hb, ha⟩, if_pos ha]
      · rw [if_neg (fun hh => ha hh.2), if_neg ha])
    rw [e]
    refine Ev.succ h0 (fun r => ?_)
    rw [comfitref02_numbers.l2, if_neg (by omega), w_in (n := (k : Int) + 1 + 1) (by omega) (by omega)]
  | succ d ih =>
    intro j hj s8 h0
    have hI := ih (j + 1) (by omega) s8 h0
    have e2 : wrap64 ((j : Int) + 1) = ((j + 1 : Nat) : Int) := by rw [w_in (by omega) (by omega)]; omega
    have hsum : sI (fun b => if aft l0 l1 ((k : Int) + 1) b = 1 then nxm y o M b * rest else 0) (j + 1) = sI (fun b => if aft l0 l1 ((k : Int) + 1) b = 1 then nxm y o M b * rest else 0) j + (if aft l0 l1 ((k : Int) + 1) j = 1 then nxm y o M j * rest else 0) := rfl
    have ha : aft l0 l1 ((k : Int) + 1) j = if (j : Int) ≤ rd l0 k then 1 else if (j : Int) ≥ rd l1 k then 2 else 0 := by unfold aft; rw [show (k : Int) + 1 - 1 = k by omega]
    have hset : ∀ c : Int, aft l0 l1 ((k : Int) + 1) j ≠ 0 → (rowOf (l0.length + 1) (fun b => wrap64 (if b < j ∧ aft l0 l1 ((k : Int) + 1) b ≠ 0 then 0 else nxm y o M b))).set ((j : Int)).toNat 0 = rowOf (l0.length + 1) (fun b => wrap64 (if b < j + 1 ∧ aft l0 l1 ((k : Int) + 1) b ≠ 0 then 0 else nxm y o M b)) := fun _ hne => by
      rw [show ((j : Int)).toNat = j by omega, rowOf_set]
      refine rowOf_congr _ _ _ (fun b _ => ?_)
      by_cases hb : b = j
      · subst hb; rw [if_pos rfl, if_pos ⟨by omega, hne⟩, w_zero]
      · rw [if_neg hb]
        have : (b < j + 1) ↔ (b < j) := by omega
        simp only [this]
    refine Ev.succ hI (fun r => ?_)
    rw [comfitref02_numbers.l2, if_pos (by omega), e1, if_pos (by omega), if_pos (by omega)]
    by_cases c1 : (j : Int) ≤ rd l0 k
    · have ha1 : aft l0 l1 ((k : Int) + 1) j = 1 := by rw [ha, if_pos c1]
      rw [if_pos c1, if_pos (by omega), if_pos (by rw [rowOf_length]; omega), hset 0 (by rw [ha1]; decide), e2, rowOf_rd _ _ _ (by omega), if_neg (fun hh => by omega), w_mul, w_add, hsum, ha1, if_pos rfl, Int.add_assoc]
    · rw [if_neg c1, if_pos (by omega)]
      by_cases c2 : (j : Int) ≥ rd l1 k
      · have ha2 : aft l0 l1 ((k : Int) + 1) j = 2 := by rw [ha, if_neg c1, if_pos c2]
        rw [if_pos c2, if_pos (by omega), if_pos (by rw [rowOf_length]; omega), hset 0 (by rw [ha2]; decide), e2, hsum, ha2, if_neg (by decide), Int.add_zero]
      · have ha0 : aft l0 l1 ((k : Int) + 1) j = 0 := by rw [ha, if_neg c1, if_neg c2]
        have er : rowOf (l0.length + 1) (fun b => wrap64 (if b < j + 1 ∧ aft l0 l1 ((k : Int) + 1) b ≠ 0 then 0 else nxm y o M b)) = rowOf (l0.length + 1) (fun b => wrap64 (if b < j ∧ aft l0 l1 ((k : Int) + 1) b ≠ 0 then 0 else nxm y o M b)) := rowOf_congr _ _ _ (fun b _ => by
          by_cases hb : b = j
          · subst hb; rw [if_neg (fun hh => hh.2 ha0), if_neg (fun hh => hh.2 ha0)]
          · have : (b < j + 1) ↔ (b < j) := by omega
            simp only [this])
        rw [if_neg c2, e2, er, hsum, ha0, if_neg (by decide), Int.add_zero]
/-- All items. -/
theorem num_l0 (h : Ok l0 l1) (hy : 0 ≤ y) (hyo : y ≤ o) (ho : o ≤ 12) :
    ∀ d k : Nat, k + d = l0.length →
      Ev (fun r => comfitref02_numbers.l0 r l0.length (rowOf (l0.length + 1) (fun b => wrap64 (mm l0 l1 y o k b)))
        (wrap64 (sI (fun i => sI (fun b => if aft l0 l1 ((i : Int) + 1) b = 1 then nxm y o (mm l0 l1 y o i) b * o ^ (l0.length - i - 1) else 0) (l0.length + 1)) k))
        (wrap64 (sI (fun i => sI (fun b => mm l0 l1 y o i b * o * o ^ (l0.length - i - 1)) (l0.length + 1)) k)) ((k : Int) + 1) l0 l1 y o)
        (wrap64 (sI (fun i => sI (fun b => if aft l0 l1 ((i : Int) + 1) b = 1 then nxm y o (mm l0 l1 y o i) b * o ^ (l0.length - i - 1) else 0) (l0.length + 1)) l0.length),
         wrap64 (sI (fun i => sI (fun b => mm l0 l1 y o i b * o * o ^ (l0.length - i - 1)) (l0.length + 1)) l0.length)) := by
  have hm := h.most
  intro d
  induction d with
  | zero =>
    intro k hk
    obtain rfl : k = l0.length := by omega
    exact Ev.succ (g := fun _ => some _) (Ev.const rfl) (fun r => by rw [comfitref02_numbers.l0, if_neg (by omega)])
  | succ d ih =>
    intro k hk
    have hI := ih (k + 1) (by omega)
    have e1 : wrap64 ((l0.length : Int) + 1) = (l0.length : Int) + 1 := w_in (by omega) (by omega)
    have e2 : wrap64 ((l0.length : Int) - ((k : Int) + 1)) = ((l0.length - k - 1 : Nat) : Int) := by rw [w_in (by omega) (by omega)]; omega
    rw [show ((k + 1 : Nat) : Int) + 1 = (k : Int) + 1 + 1 by omega] at hI
    have h2 := num_l2 (y := y) (o := o) h (mm l0 l1 y o k) k (by omega) (wrap64 (sI (fun i => sI (fun b => mm l0 l1 y o i b * o * o ^ (l0.length - i - 1)) (l0.length + 1)) (k + 1))) (o ^ (l0.length - k - 1)) _ (l0.length + 1) 0 (by omega)
      (sI (fun i => sI (fun b => if aft l0 l1 ((i : Int) + 1) b = 1 then nxm y o (mm l0 l1 y o i) b * o ^ (l0.length - i - 1) else 0) (l0.length + 1)) k) hI
    have er0 : rowOf (l0.length + 1) (fun b => wrap64 (if b < 0 ∧ aft l0 l1 ((k : Int) + 1) b ≠ 0 then 0 else nxm y o (mm l0 l1 y o k) b)) = rowOf (l0.length + 1) (fun b => wrap64 (nxm y o (mm l0 l1 y o k) b)) := rowOf_congr _ _ _ (fun b _ => by rw [if_neg (fun hh => by omega)])
    rw [er0, sI, Int.add_zero] at h2
    have h1 := num_l1 (l0 := l0) (l1 := l1) (y := y) (o := o) (mm l0 l1 y o k) l0.length (k + 1) (wrap64 (sI (fun i => sI (fun b => if aft l0 l1 ((i : Int) + 1) b = 1 then nxm y o (mm l0 l1 y o i) b * o ^ (l0.length - i - 1) else 0) (l0.length + 1)) k)) (o ^ (l0.length - k - 1)) (_, _) hm (fun _ _ => trivial) (l0.length + 1) 0 (by omega)
      (sI (fun i => sI (fun b => mm l0 l1 y o i b * o * o ^ (l0.length - i - 1)) (l0.length + 1)) k) h2
    have er1 : rowOf (l0.length + 1) (fun b => wrap64 (pt (mm l0 l1 y o k) y o 0 b)) = List.replicate (((l0.length : Int) + 1)).toNat 0 := by
      rw [show (((l0.length : Int) + 1)).toNat = l0.length + 1 by omega, rowOf_replicate]
      exact rowOf_congr _ _ _ (fun b _ => by rw [pt_zero, w_zero])
    rw [er1, sI, Int.add_zero] at h1
    refine Ev.succ (g := fun r => (comfitref02_power.f r o (l0.length - k - 1 : Nat)).bind fun t164 => (comfitref02_numbers.l1 r l0.length (wrap64 (sI (fun i => sI (fun b => if aft l0 l1 ((i : Int) + 1) b = 1 then nxm y o (mm l0 l1 y o i) b * o ^ (l0.length - i - 1) else 0) (l0.length + 1)) k)) (wrap64 (sI (fun i => sI (fun b => mm l0 l1 y o i b * o * o ^ (l0.length - i - 1)) (l0.length + 1)) k)) ((k : Int) + 1) (List.replicate (((l0.length : Int) + 1)).toNat 0) t164 (rowOf (l0.length + 1) (fun b => wrap64 (mm l0 l1 y o k b))) ((l0.length : Int) + 1) 0 l0 l1 y o)) ?_ (fun r => ?_)
    · refine Ev.bind (ref_power_ev o _ (by omega) (by omega)) ?_
      rw [show (((l0.length - k - 1 : Nat) : Int)).toNat = l0.length - k - 1 by omega]
      exact h1
    · rw [comfitref02_numbers.l0, if_pos (by omega), e1, if_pos (by omega), if_pos (by omega), e2, rowOf_length]
      rfl
end
end Go.Proofs.Ytdppnmfljfdhaaa.Pure
