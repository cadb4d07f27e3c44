/- Plain laws of packets' parts: rounds without end, fractions as rationals, sums of weights. -/
import Derived.Test.YtigmhomfadimnaaXP
import Derived.Test.YtigmhomfadimnaaXV
import Derived.Test.YtigmhomfadimnaaXS
import Derived.Test.YtigmhomfadimnaaXR
set_option linter.unusedVariables false
set_option linter.unusedSimpArgs false
namespace Go.Proofs.Ytigmhomfadimnaa.Pure
open Go.RowKit Go.Proofs.Ytigmhomfadimnaa.X Go.Proofs.YtigmhomfadimnaaW.PrintWords Go.Proofs.YtigmhomfadimnaaW.PrintLast Go.Proofs.YtigmhomfadimnaaW.PrintMore

/-! ### With rounds enough -/
def Ev {α : Type} (g : Nat → Option α) (v : α) : Prop := ∃ k0, ∀ k, k0 ≤ k → g k = some v
theorem Ev.get {α : Type} {g : Nat → Option α} {v : α} (h : Ev g v) : ∃ k, g k = some v := ⟨h.choose, h.choose_spec _ (Nat.le_refl _)⟩
theorem Ev.const {α : Type} {o : Option α} {v : α} (h : o = some v) : Ev (fun _ => o) v := ⟨0, fun _ _ => h⟩
theorem Ev.bind {α β : Type} {g : Nat → Option α} {v : α} (h : Ev g v) {f : Nat → α → Option β} {u : β} (h2 : Ev (fun k => f k v) u) : Ev (fun k => (g k).bind (f k)) u := by
  obtain ⟨a, ha⟩ := h
  obtain ⟨b, hb⟩ := h2
  exact ⟨max a b, fun k hk => by show (g k).bind (f k) = _; rw [ha k (by omega)]; exact hb k (by omega)⟩
theorem Ev.succ {α : Type} {g f : Nat → Option α} {v : α} (h : Ev g v) (hf : ∀ k, f (k + 1) = g k) : Ev f v := by
  obtain ⟨a, ha⟩ := h
  refine ⟨a + 1, fun k hk => ?_⟩
  obtain ⟨m, rfl⟩ : ∃ m, k = m + 1 := ⟨k - 1, by omega⟩
  rw [hf, ha m (by omega)]
theorem Ev.ifPos {α : Type} {c : Prop} [Decidable c] {f g : Nat → Option α} {v : α} (hc : c) (h : Ev f v) : Ev (fun k => if c then f k else g k) v := by
  obtain ⟨a, ha⟩ := h
  exact ⟨a, fun k hk => by simp only [if_pos hc]; exact ha k hk⟩
theorem Ev.ifNeg {α : Type} {c : Prop} [Decidable c] {f g : Nat → Option α} {v : α} (hc : ¬ c) (h : Ev g v) : Ev (fun k => if c then f k else g k) v := by
  obtain ⟨a, ha⟩ := h
  exact ⟨a, fun k hk => by simp only [if_neg hc]; exact ha k hk⟩
theorem Ev.of {α : Type} {g : Nat → Option α} {v : α} (hm : ∀ k, LeO (g k) (g (k + 1))) (k0 : Nat) (h : g k0 = some v) : Ev g v := by
  refine ⟨k0, fun k hk => ?_⟩
  obtain ⟨d, rfl⟩ : ∃ d, k = k0 + d := ⟨k - k0, by omega⟩
  clear hk
  induction d with
  | zero => exact h
  | succ d ih => exact hm _ _ ih
theorem Ev.uniq {α : Type} {g : Nat → Option α} {v u : α} (h : Ev g v) (h' : Ev g u) : v = u := by
  obtain ⟨a, ha⟩ := h
  obtain ⟨b, hb⟩ := h'
  have h1 := ha (max a b) (by omega)
  have h2 := hb (max a b) (by omega)
  exact Option.some.inj (h1.symm.trans h2)
theorem Ev.cast {α : Type} {g : Nat → Option α} {v u : α} (h : Ev g v) (e : v = u) : Ev g u := e ▸ h

/-! ### wrap64 -/
theorem w_in {n : Int} (h0 : -9223372036854775808 ≤ n) (h1 : n < 9223372036854775808) : wrap64 n = n := by unfold wrap64; omega
theorem w_zero : wrap64 0 = 0 := w_in (by omega) (by omega)
theorem w_range (n : Int) : -9223372036854775808 ≤ wrap64 n ∧ wrap64 n < 9223372036854775808 := by unfold wrap64; omega
theorem w_emod (n : Int) : wrap64 n % 18446744073709551616 = n % 18446744073709551616 := by unfold wrap64; omega
theorem w_eq {a b : Int} (h : a % 18446744073709551616 = b % 18446744073709551616) : wrap64 a = wrap64 b := by unfold wrap64; omega
theorem w_add (a b : Int) : wrap64 (wrap64 a + wrap64 b) = wrap64 (a + b) := by unfold wrap64; omega
theorem w_addl (a b : Int) : wrap64 (wrap64 a + b) = wrap64 (a + b) := by unfold wrap64; omega
theorem w_addr (a b : Int) : wrap64 (a + wrap64 b) = wrap64 (a + b) := by unfold wrap64; omega
theorem w_subl (a b : Int) : wrap64 (wrap64 a - b) = wrap64 (a - b) := by unfold wrap64; omega
theorem w_subr (a b : Int) : wrap64 (a - wrap64 b) = wrap64 (a - b) := by unfold wrap64; omega
theorem w_neg (a : Int) : wrap64 (-wrap64 a) = wrap64 (-a) := by unfold wrap64; omega
theorem w_w (a : Int) : wrap64 (wrap64 a) = wrap64 a := by unfold wrap64; omega
theorem w_mul (a b : Int) : wrap64 (wrap64 a * wrap64 b) = wrap64 (a * b) := by
  apply w_eq
  rw [Int.mul_emod, w_emod, w_emod, ← Int.mul_emod]
theorem w_mull (a b : Int) : wrap64 (wrap64 a * b) = wrap64 (a * b) := by
  apply w_eq
  rw [Int.mul_emod, w_emod, ← Int.mul_emod]
theorem w_mulr (a b : Int) : wrap64 (a * wrap64 b) = wrap64 (a * b) := by
  apply w_eq
  rw [Int.mul_emod, w_emod, ← Int.mul_emod]

/-! ### gcd -/
theorem gcd_tmod (a b : Int) : Int.gcd b (Int.tmod a b) = Int.gcd a b := by
  have h : Int.tmod a b = a - b * Int.tdiv a b := by have := Int.mul_tdiv_add_tmod a b; omega
  rw [h, Int.gcd_comm a b]
  simp
theorem tmod_lt (a b : Int) (hb : b ≠ 0) : (Int.tmod a b).natAbs < b.natAbs := by
  rw [Int.natAbs_tmod]
  exact Nat.mod_lt _ (by omega)
theorem mx_abs (a : Int) (h : -9223372036854775808 < a) (h2 : a < 9223372036854775808) : mx a (wrap64 (-a)) = (a.natAbs : Int) := by
  rw [w_in (by omega) (by omega)]
  unfold mx
  split <;> omega
theorem packets_gcd_ev : ∀ (n : Nat) (a b : Int), b.natAbs ≤ n → a.natAbs < 9223372036854775808 → b.natAbs < 9223372036854775808 → Ev (fun k => packets_gcd.l0 k a b) (Int.gcd a b : Int) := by
  intro n
  induction n with
  | zero =>
    intro a b hb ha _
    obtain rfl : b = 0 := by omega
    refine Ev.succ (g := fun _ => some (mx a (wrap64 (-a)))) (Ev.const (by rw [mx_abs a (by omega) (by omega)]; simp)) (fun k => by simp [packets_gcd.l0])
  | succ n ih =>
    intro a b hb ha hb2
    by_cases h0 : b = 0
    · exact (ih a b (by omega) ha hb2)
    · have hlt := tmod_lt a b h0
      refine Ev.succ (g := fun k => packets_gcd.l0 k b (Int.tmod a b)) ((ih b (Int.tmod a b) (by omega) hb2 (by omega)).cast (by rw [gcd_tmod])) (fun k => by rw [packets_gcd.l0, if_neg h0])
theorem ref_gcd_ev : ∀ (n : Nat) (a b : Int), b.natAbs ≤ n → 0 ≤ a → 0 ≤ b → Ev (fun k => comfitref04_gcd.l0 k a b) (Int.gcd a b : Int) := by
  intro n
  induction n with
  | zero =>
    intro a b hb ha _
    obtain rfl : b = 0 := by omega
    refine Ev.succ (g := fun _ => some a) (Ev.const (by simp; omega)) (fun k => by simp [comfitref04_gcd.l0])
  | succ n ih =>
    intro a b hb ha hb2
    by_cases h0 : b = 0
    · exact (ih a b (by omega) ha hb2)
    · have hlt := tmod_lt a b h0
      have hnn : 0 ≤ Int.tmod a b := Int.tmod_nonneg _ ha
      refine Ev.succ (g := fun k => comfitref04_gcd.l0 k b (Int.tmod a b)) ((ih b (Int.tmod a b) (by omega) hb2 hnn).cast (by rw [gcd_tmod])) (fun k => by rw [comfitref04_gcd.l0, if_neg h0])

/-! ### Fractions -/
/-- A fraction as the program keeps it. -/
def fr (q : Rat) : Int × Int := (q.num, (q.den : Int))
theorem fr_divInt (a b : Int) (hb : 0 < b) : fr (Rat.divInt a b) = (Int.tdiv a (Int.gcd a b), Int.tdiv b (Int.gcd a b)) := by
  unfold fr
  rw [Rat.num_divInt, Rat.den_divInt, if_neg (by omega), Int.sign_eq_one_of_pos hb, Int.one_mul, Int.gcd_comm b a]
  have h1 : (Int.gcd a b : Int) ∣ a := Int.gcd_dvd_left ..
  have h2 : (Int.gcd a b : Int) ∣ b := Int.gcd_dvd_right ..
  rw [Int.tdiv_eq_ediv_of_dvd h1, Int.tdiv_eq_ediv_of_dvd h2]
  congr 1
  push_cast
  rw [Int.natAbs_of_nonneg (by omega)]
theorem tdiv_w (a g : Int) (ha : -9223372036854775808 < a) (ha2 : a < 9223372036854775808) : wrap64 (Int.tdiv a g) = Int.tdiv a g := by
  have h1 : (Int.tdiv a g).natAbs ≤ a.natAbs := by
    rw [Int.natAbs_tdiv]
    exact Nat.div_le_self _ _
  exact w_in (by omega) (by omega)
theorem gcd_ne (a b : Int) (hb : 0 < b) : ¬ ((Int.gcd a b : Int) = 0) := by
  intro h
  have h' : Int.gcd a b = 0 := by omega
  rw [Int.gcd_eq_zero_iff] at h'
  omega
theorem packets_frac_ev (a b : Int) (hb : 0 < b) (hb2 : b < 9223372036854775808) (ha : -9223372036854775808 < a) (ha2 : a < 9223372036854775808) : Ev (fun k => packets_frac.f k a b) (fr (Rat.divInt a b)) := by
  unfold packets_frac.f packets_gcd.f
  refine Ev.bind (packets_gcd_ev b.natAbs a b (Nat.le_refl _) (by omega) (by omega)) (Ev.ifNeg (gcd_ne a b hb) (Ev.const ?_))
  rw [fr_divInt a b hb, tdiv_w a _ ha ha2, tdiv_w b _ (by omega) hb2]
theorem ref_frac_ev (a b : Int) (hb : 0 < b) (hb2 : b < 9223372036854775808) (ha : -9223372036854775808 < a) (ha2 : a < 9223372036854775808) : Ev (fun k => comfitref04_frac.f k a b) (fr (Rat.divInt a b)) := by
  unfold comfitref04_frac.f comfitref04_gcd.f
  rw [mx_abs a ha ha2]
  have hg : Int.gcd (a.natAbs : Int) b = Int.gcd a b := by simp [Int.gcd]
  refine Ev.bind ((ref_gcd_ev b.natAbs a.natAbs b (Nat.le_refl _) (by omega) (by omega)).cast (by rw [hg])) (Ev.ifNeg (gcd_ne a b hb) (Ev.const ?_))
  rw [fr_divInt a b hb, tdiv_w a _ ha ha2, tdiv_w b _ (by omega) hb2]

/-! ### Sums of weights, powers, signs -/
/-- The weights of a set, together. -/
def wsum : List Int → Int → Int
  | [], _ => 0
  | x :: l, s => (s % 2) * x + wsum l (s / 2)
theorem bit_at : ∀ s : Fin 64, ∀ i : Fin 6, Go.bits .and .i64 (shr .i64 (s.val : Int) (i.val : Int)) 1 = ((s.val : Int) / 2 ^ i.val) % 2 := by decide +kernel
theorem bit_of (s : Int) (h0 : 0 ≤ s) (h1 : s < 64) (i : Nat) (hi : i < 6) : Go.bits .and .i64 (shr .i64 s (i : Int)) 1 = (s / 2 ^ i) % 2 := by
  obtain ⟨n, rfl⟩ := Int.eq_ofNat_of_zero_le h0
  exact bit_at ⟨n, by omega⟩ ⟨i, hi⟩
theorem rd_drop (l : List Int) (i : Nat) (hi : i < l.length) : l.drop i = rd l (i : Int) :: l.drop (i + 1) := by
  rw [List.drop_eq_getElem_cons hi]
  simp [rd, hi]
theorem wsum_drop (l : List Int) (i : Nat) (hi : i < l.length) (s : Int) : wsum (l.drop i) (s / 2 ^ i) = ((s / 2 ^ i) % 2) * rd l (i : Int) + wsum (l.drop (i + 1)) (s / 2 ^ (i + 1)) := by
  rw [rd_drop l i hi, wsum, Int.pow_succ, ← Int.ediv_ediv_of_nonneg (Int.pow_nonneg (by omega))]
theorem of_ev (l : List Int) (s : Int) (h0 : 0 ≤ s) (h1 : s < 64) (hl : l.length ≤ 6) : ∀ (d i : Nat), i + d = l.length → ∀ acc, Ev (fun k => packets_weights_of.l0 k s (wrap64 acc) l (l.length : Int) (i : Int)) (wrap64 (acc + wsum (l.drop i) (s / 2 ^ i))) := by
  intro d
  induction d with
  | zero =>
    intro i hi acc
    refine Ev.succ (g := fun _ => some (wrap64 acc)) (Ev.const ?_) (fun k => by rw [packets_weights_of.l0, if_neg (by omega)])
    rw [List.drop_of_length_le (by omega)]
    simp [wsum]
  | succ d ih =>
    intro i hi acc
    refine Ev.succ (g := fun k => packets_weights_of.l0 k s (wrap64 (acc + ((s / 2 ^ i) % 2) * rd l (i : Int))) l (l.length : Int) ((i + 1 : Nat) : Int)) ((ih (i + 1) (by omega) _).cast ?_) (fun k => ?_)
    · rw [wsum_drop l i (by omega)]
      congr 1
      omega
    · rw [packets_weights_of.l0, if_pos (by omega), if_pos (by omega), if_pos (by omega), bit_of s h0 h1 i (by omega), w_in (n := (i : Int) + 1) (by omega) (by omega), w_add]
      push_cast
      rfl
theorem packets_of_ev (l : List Int) (s : Int) (h0 : 0 ≤ s) (h1 : s < 64) (hl : l.length ≤ 6) : Ev (fun k => packets_weights_of.f k l s) (wrap64 (wsum l s)) := by
  have := of_ev l s h0 h1 hl l.length 0 (by omega) 0
  simpa [packets_weights_of.f, w_in] using this
theorem Sum_ev (l : List Int) (s : Int) (h0 : 0 ≤ s) (h1 : s < 64) (hl : l.length ≤ 6) : ∀ (d i : Nat), i + d = l.length → ∀ acc, Ev (fun k => comfitref04_Sum.l0 k s (wrap64 acc) l (l.length : Int) (i : Int)) (wrap64 (acc + wsum (l.drop i) (s / 2 ^ i))) := by
  intro d
  induction d with
  | zero =>
    intro i hi acc
    refine Ev.succ (g := fun _ => some (wrap64 acc)) (Ev.const ?_) (fun k => by rw [comfitref04_Sum.l0, if_neg (by omega)])
    rw [List.drop_of_length_le (by omega)]
    simp [wsum]
  | succ d ih =>
    intro i hi acc
    refine Ev.succ (g := fun k => comfitref04_Sum.l0 k s (wrap64 (acc + ((s / 2 ^ i) % 2) * rd l (i : Int))) l (l.length : Int) ((i + 1 : Nat) : Int)) ((ih (i + 1) (by omega) _).cast ?_) (fun k => ?_)
    · rw [wsum_drop l i (by omega)]
      congr 1
      omega
    · rw [comfitref04_Sum.l0, if_pos (by omega), if_pos (by omega), if_pos (by omega), bit_of s h0 h1 i (by omega), w_in (n := (i : Int) + 1) (by omega) (by omega)]
      have hb : (s / 2 ^ i) % 2 = 0 ∨ (s / 2 ^ i) % 2 = 1 := by omega
      rcases hb with hb | hb <;> rw [hb] <;> simp [w_addl]
theorem ref_Sum_ev (l : List Int) (s : Int) (h0 : 0 ≤ s) (h1 : s < 64) (hl : l.length ≤ 6) : Ev (fun k => comfitref04_Sum.f k l s) (wrap64 (wsum l s)) := by
  have := Sum_ev l s h0 h1 hl l.length 0 (by omega) 0
  simpa [comfitref04_Sum.f, w_in] using this

theorem power_ev (a : Int) : ∀ (d : Nat) (i n acc : Int), n - i = d → 0 ≤ i → n < 1000 → Ev (fun k => packets_power.l0 k a (wrap64 acc) n i) (wrap64 (acc * a ^ d)) := by
  intro d
  induction d with
  | zero =>
    intro i n acc hd hi hn
    exact Ev.succ (g := fun _ => some (wrap64 acc)) (Ev.const (by simp)) (fun k => by rw [packets_power.l0, if_neg (by omega)])
  | succ d ih =>
    intro i n acc hd hi hn
    refine Ev.succ (g := fun k => packets_power.l0 k a (wrap64 (acc * a)) n (i + 1)) ((ih (i + 1) n (acc * a) (by omega) (by omega) hn).cast ?_) (fun k => ?_)
    · rw [Int.mul_assoc, Int.pow_succ, Int.mul_comm (a ^ d)]
    · rw [packets_power.l0, if_pos (by omega), w_mull, w_in (n := i + 1) (by omega) (by omega)]
theorem packets_power_ev (a n : Int) (h0 : 0 ≤ n) (h1 : n < 1000) : Ev (fun k => packets_power.f k a n) (wrap64 (a ^ n.toNat)) := by
  have := power_ev a n.toNat 0 n 1 (by omega) (by omega) h1
  simpa [packets_power.f, w_in] using this
theorem ref_power_ev' (a : Int) : ∀ (d : Nat) (i n acc : Int), n - i = d → 0 ≤ i → n < 1000 → Ev (fun k => comfitref04_power.l0 k a (wrap64 acc) n i) (wrap64 (acc * a ^ d)) := by
  intro d
  induction d with
  | zero =>
    intro i n acc hd hi hn
    exact Ev.succ (g := fun _ => some (wrap64 acc)) (Ev.const (by simp)) (fun k => by rw [comfitref04_power.l0, if_neg (by omega)])
  | succ d ih =>
    intro i n acc hd hi hn
    refine Ev.succ (g := fun k => comfitref04_power.l0 k a (wrap64 (acc * a)) n (i + 1)) ((ih (i + 1) n (acc * a) (by omega) (by omega) hn).cast ?_) (fun k => ?_)
    · rw [Int.mul_assoc, Int.pow_succ, Int.mul_comm (a ^ d)]
    · rw [comfitref04_power.l0, if_pos (by omega), w_mull, w_in (n := i + 1) (by omega) (by omega)]
theorem ref_power_ev (a n : Int) (h0 : 0 ≤ n) (h1 : n < 1000) : Ev (fun k => comfitref04_power.f k a n) (wrap64 (a ^ n.toNat)) := by
  have := ref_power_ev' a n.toNat 0 n 1 (by omega) (by omega) h1
  simpa [comfitref04_power.f, w_in] using this

/-- 1 for an even number of kinds, -1 for an odd one. -/
def sg (s : Int) : Int := if (s % 2 + s / 2 % 2 + s / 4 % 2 + s / 8 % 2 + s / 16 % 2 + s / 32 % 2) % 2 = 0 then 1 else -1
theorem sign_all : ∀ s : Fin 64, packets_sign.f 8 (s.val : Int) = some (sg s.val) := by decide +kernel
theorem odd_all : ∀ s : Fin 64, comfitref04_odd.f 8 (s.val : Int) = some (decide (sg s.val = -1)) := by decide +kernel
theorem packets_sign_ev (s : Int) (h0 : 0 ≤ s) (h1 : s < 64) : Ev (fun k => packets_sign.f k s) (sg s) := by
  obtain ⟨n, rfl⟩ := Int.eq_ofNat_of_zero_le h0
  exact Ev.of (fun k => packets_sign.mono _ k) 8 (sign_all ⟨n, by omega⟩)
theorem ref_odd_ev (s : Int) (h0 : 0 ≤ s) (h1 : s < 64) : Ev (fun k => comfitref04_odd.f k s) (decide (sg s = -1)) := by
  obtain ⟨n, rfl⟩ := Int.eq_ofNat_of_zero_le h0
  exact Ev.of (fun k => comfitref04_odd.mono _ k) 8 (odd_all ⟨n, by omega⟩)
theorem sg_cases (s : Int) : sg s = 1 ∨ sg s = -1 := by unfold sg; split <;> simp

end Go.Proofs.Ytigmhomfadimnaa.Pure
