/- Plain laws of packets: rounds without end, fractions as rationals, sums of weights, the parts of a set. -/
import Derived.Test.YtigmhomfadimnaaQXP
import Derived.Test.YtigmhomfadimnaaQXV
import Derived.Test.YtigmhomfadimnaaQXS
import Derived.Test.YtigmhomfadimnaaQXR
import Derived.Test.YtigmhomfadimnaaQHIsSet
import Derived.Test.YtigmhomfadimnaaQHParts
import Derived.Test.YtigmhomfadimnaaQXcomfitlaw04list
import Derived.Test.YtigmhomfadimnaaQXcomfitlaw04awake
set_option linter.unusedVariables false
set_option linter.unusedSimpArgs false
namespace Go.Proofs.Ytigmhomfadimnaa.Pure
open Go.RowKit Go.Proofs.Ytigmhomfadimnaa.X Go.Proofs.YtigmhomfadimnaaW.PrintWords Go.Proofs.YtigmhomfadimnaaW.PrintLast Go.Proofs.YtigmhomfadimnaaW.PrintMore

/-! Plain laws of packets' parts: rounds without end, fractions as rationals, sums of weights. -/
/-! ### With rounds enough -/
def Ev {α : Type} (g : Nat → Option α) (v : α) : Prop := ∃ k0, ∀ k, k0 ≤ k → g k = some v
theorem Ev.get {α : Type} {g : Nat → Option α} {v : α} (h : Ev g v) : ∃ k, g k = some v := ⟨h.choose, h.choose_spec _ (Nat.le_refl _)⟩
theorem Ev.const {α : Type} {o : Option α} {v : α} (h : o = some v) : Ev (fun _ => o) v := ⟨0, fun _ _ => h⟩
theorem Ev.bind {α β : Type} {g : Nat → Option α} {v : α} (h : Ev g v) {f : Nat → α → Option β} {u : β} (h2 : Ev (fun k => f k v) u) : Ev (fun k => (g k).bind (f k)) u := by
  obtain ⟨a, ha⟩ := h
  obtain ⟨b, hb⟩ := h2
  exact ⟨max a b, fun k hk => by show (g k).bind (f k) = _; rw [ha k (by omega)]; exact hb k (by omega)⟩
theorem Ev.succ {α : Type} {g f : Nat → Option α} {v : α} (h : Ev g v) (hf : ∀ k, f (k + 1) = g k) : Ev f v := by
  obtain ⟨a, ha⟩ := h
  refine ⟨a + 1, fun k hk => ?_⟩
  obtain ⟨m, rfl⟩ : ∃ m, k = m + 1 := ⟨k - 1, by omega⟩
  rw [hf, ha m (by omega)]
theorem Ev.ifPos {α : Type} {c : Prop} [Decidable c] {f g : Nat → Option α} {v : α} (hc : c) (h : Ev f v) : Ev (fun k => if c then f k else g k) v := by
  obtain ⟨a, ha⟩ := h
  exact ⟨a, fun k hk => by simp only [if_pos hc]; exact ha k hk⟩
theorem Ev.ifNeg {α : Type} {c : Prop} [Decidable c] {f g : Nat → Option α} {v : α} (hc : ¬ c) (h : Ev g v) : Ev (fun k => if c then f k else g k) v := by
  obtain ⟨a, ha⟩ := h
  exact ⟨a, fun k hk => by simp only [if_neg hc]; exact ha k hk⟩
theorem Ev.of {α : Type} {g : Nat → Option α} {v : α} (hm : ∀ k, LeO (g k) (g (k + 1))) (k0 : Nat) (h : g k0 = some v) : Ev g v := by
  refine ⟨k0, fun k hk => ?_⟩
  obtain ⟨d, rfl⟩ : ∃ d, k = k0 + d := ⟨k - k0, by omega⟩
  clear hk
  induction d with
  | zero => exact h
  | succ d ih => exact hm _ _ ih
theorem Ev.cast {α : Type} {g : Nat → Option α} {v u : α} (h : Ev g v) (e : v = u) : Ev g u := e ▸ h

/-! ### wrap64 -/
theorem w_in {n : Int} (h0 : -9223372036854775808 ≤ n) (h1 : n < 9223372036854775808) : wrap64 n = n := by unfold wrap64; omega
theorem w_add (a b : Int) : wrap64 (wrap64 a + wrap64 b) = wrap64 (a + b) := by unfold wrap64; omega
/-! ### gcd -/
theorem gcd_tmod (a b : Int) : Int.gcd b (Int.tmod a b) = Int.gcd a b := by
  have h : Int.tmod a b = a - b * Int.tdiv a b := by have := Int.mul_tdiv_add_tmod a b; omega
  rw [h, Int.gcd_comm a b]
  simp
theorem tmod_lt (a b : Int) (hb : b ≠ 0) : (Int.tmod a b).natAbs < b.natAbs := by
  rw [Int.natAbs_tmod]
  exact Nat.mod_lt _ (by omega)
theorem mx_abs (a : Int) (h : -9223372036854775808 < a) (h2 : a < 9223372036854775808) : mx a (wrap64 (-a)) = (a.natAbs : Int) := by
  rw [w_in (by omega) (by omega)]
  unfold mx
  split <;> omega
theorem packets_gcd_ev : ∀ (n : Nat) (a b : Int), b.natAbs ≤ n → a.natAbs < 9223372036854775808 → b.natAbs < 9223372036854775808 → Ev (fun k => packets_gcd.l0 k a b) (Int.gcd a b : Int) := by
  intro n
  induction n with
  | zero =>
    intro a b hb ha _
    obtain rfl : b = 0 := by omega
    refine Ev.succ (g := fun _ => some (mx a (wrap64 (-a)))) (Ev.const (by rw [mx_abs a (by omega) (by omega)]; simp)) (fun k => by simp [packets_gcd.l0])
  | succ n ih =>
    intro a b hb ha hb2
    by_cases h0 : b = 0
    · exact (ih a b (by omega) ha hb2)
    · have hlt := tmod_lt a b h0
      refine Ev.succ (g := fun k => packets_gcd.l0 k b (Int.tmod a b)) ((ih b (Int.tmod a b) (by omega) hb2 (by omega)).cast (by rw [gcd_tmod])) (fun k => by rw [packets_gcd.l0, if_neg h0])
theorem ref_gcd_ev : ∀ (n : Nat) (a b : Int), b.natAbs ≤ n → 0 ≤ a → 0 ≤ b → Ev (fun k => comfitref04_gcd.l0 k a b) (Int.gcd a b : Int) := by
  intro n
  induction n with
  | zero =>
    intro a b hb ha _
    obtain rfl : b = 0 := by omega
    refine Ev.succ (g := fun _ => some a) (Ev.const (by simp; omega)) (fun k => by simp [comfitref04_gcd.l0])
  | succ n ih =>
    intro a b hb ha hb2
    by_cases h0 : b = 0
    · exact (ih a b (by omega) ha hb2)
    · have hlt := tmod_lt a b h0
      have hnn : 0 ≤ Int.tmod a b := Int.tmod_nonneg _ ha
      refine Ev.succ (g := fun k => comfitref04_gcd.l0 k b (Int.tmod a b)) ((ih b (Int.tmod a b) (by omega) hb2 hnn).cast (by rw [gcd_tmod])) (fun k => by rw [comfitref04_gcd.l0, if_neg h0])

/-! ### Fractions -/
/-- A fraction as the program keeps it. -/
def fr (q : Rat) : Int × Int := (q.num, (q.den : Int))
theorem fr_divInt (a b : Int) (hb : 0 < b) : fr (Rat.divInt a b) = (Int.tdiv a (Int.gcd a b), Int.tdiv b (Int.gcd a b)) := by
  unfold fr
  rw [Rat.num_divInt, Rat.den_divInt, if_neg (by omega), Int.sign_eq_one_of_pos hb, Int.one_mul, Int.gcd_comm b a]
  have h1 : (Int.gcd a b : Int) ∣ a := Int.gcd_dvd_left ..
  have h2 : (Int.gcd a b : Int) ∣ b := Int.gcd_dvd_right ..
  rw [Int.tdiv_eq_ediv_of_dvd h1, Int.tdiv_eq_ediv_of_dvd h2]
  congr 1
  push_cast
  rw [Int.natAbs_of_nonneg (by omega)]
theorem tdiv_w (a g : Int) (ha : -9223372036854775808 < a) (ha2 : a < 9223372036854775808) : wrap64 (Int.tdiv a g) = Int.tdiv a g := by
  have h1 : (Int.tdiv a g).natAbs ≤ a.natAbs := by
    rw [Int.natAbs_tdiv]
    exact Nat.div_le_self _ _
  exact w_in (by omega) (by omega)
theorem gcd_ne (a b : Int) (hb : 0 < b) : ¬ ((Int.gcd a b : Int) = 0) := by
  intro h
  have h' : Int.gcd a b = 0 := by omega
  rw [Int.gcd_eq_zero_iff] at h'
  omega
theorem packets_frac_ev (a b : Int) (hb : 0 < b) (hb2 : b < 9223372036854775808) (ha : -9223372036854775808 < a) (ha2 : a < 9223372036854775808) : Ev (fun k => packets_frac.f k a b) (fr (Rat.divInt a b)) := by
  unfold packets_frac.f packets_gcd.f
  refine Ev.bind (packets_gcd_ev b.natAbs a b (Nat.le_refl _) (by omega) (by omega)) (Ev.ifNeg (gcd_ne a b hb) (Ev.const ?_))
  rw [fr_divInt a b hb, tdiv_w a _ ha ha2, tdiv_w b _ (by omega) hb2]
theorem ref_frac_ev (a b : Int) (hb : 0 < b) (hb2 : b < 9223372036854775808) (ha : -9223372036854775808 < a) (ha2 : a < 9223372036854775808) : Ev (fun k => comfitref04_frac.f k a b) (fr (Rat.divInt a b)) := by
  unfold comfitref04_frac.f comfitref04_gcd.f
  rw [mx_abs a ha ha2]
  have hg : Int.gcd (a.natAbs : Int) b = Int.gcd a b := by simp [Int.gcd]
  refine Ev.bind ((ref_gcd_ev b.natAbs a.natAbs b (Nat.le_refl _) (by omega) (by omega)).cast (by rw [hg])) (Ev.ifNeg (gcd_ne a b hb) (Ev.const ?_))
  rw [fr_divInt a b hb, tdiv_w a _ ha ha2, tdiv_w b _ (by omega) hb2]

/-! ### Sums of weights, powers, signs -/
/-- The weights of a set, together. -/
def wsum : List Int → Int → Int
  | [], _ => 0
  | x :: l, s => (s % 2) * x + wsum l (s / 2)
theorem bit_at : ∀ s : Fin 64, ∀ i : Fin 6, Go.bits .and .i64 (shr .i64 (s.val : Int) (i.val : Int)) 1 = ((s.val : Int) / 2 ^ i.val) % 2 := by decide +kernel
theorem bit_of (s : Int) (h0 : 0 ≤ s) (h1 : s < 64) (i : Nat) (hi : i < 6) : Go.bits .and .i64 (shr .i64 s (i : Int)) 1 = (s / 2 ^ i) % 2 := by
  obtain ⟨n, rfl⟩ := Int.eq_ofNat_of_zero_le h0
  exact bit_at ⟨n, by omega⟩ ⟨i, hi⟩
theorem rd_drop (l : List Int) (i : Nat) (hi : i < l.length) : l.drop i = rd l (i : Int) :: l.drop (i + 1) := by
  rw [List.drop_eq_getElem_cons hi]
  simp [rd, hi]
theorem wsum_drop (l : List Int) (i : Nat) (hi : i < l.length) (s : Int) : wsum (l.drop i) (s / 2 ^ i) = ((s / 2 ^ i) % 2) * rd l (i : Int) + wsum (l.drop (i + 1)) (s / 2 ^ (i + 1)) := by
  rw [rd_drop l i hi, wsum, Int.pow_succ, ← Int.ediv_ediv_of_nonneg (Int.pow_nonneg (by omega))]
theorem of_ev (l : List Int) (s : Int) (h0 : 0 ≤ s) (h1 : s < 64) (hl : l.length ≤ 6) : ∀ (d i : Nat), i + d = l.length → ∀ acc, Ev (fun k => packets_weights_of.l0 k s (wrap64 acc) l (l.length : Int) (i : Int)) (wrap64 (acc + wsum (l.drop i) (s / 2 ^ i))) := by
  intro d
  induction d with
  | zero =>
    intro i hi acc
    refine Ev.succ (g := fun _ => some (wrap64 acc)) (Ev.const ?_) (fun k => by rw [packets_weights_of.l0, if_neg (by omega)])
    rw [List.drop_of_length_le (by omega)]
    simp [wsum]
  | succ d ih =>
    intro i hi acc
    refine Ev.succ (g := fun k => packets_weights_of.l0 k s (wrap64 (acc + ((s / 2 ^ i) % 2) * rd l (i : Int))) l (l.length : Int) ((i + 1 : Nat) : Int)) ((ih (i + 1) (by omega) _).cast ?_) (fun k => ?_)
    · rw [wsum_drop l i (by omega)]
      congr 1
      omega
    · rw [packets_weights_of.l0, if_pos (by omega), if_pos (by omega), if_pos (by omega), bit_of s h0 h1 i (by omega), w_in (n := (i : Int) + 1) (by omega) (by omega), w_add]
      push_cast
      rfl
theorem packets_of_ev (l : List Int) (s : Int) (h0 : 0 ≤ s) (h1 : s < 64) (hl : l.length ≤ 6) : Ev (fun k => packets_weights_of.f k l s) (wrap64 (wsum l s)) := by
  have := of_ev l s h0 h1 hl l.length 0 (by omega) 0
  simpa [packets_weights_of.f, w_in] using this
/-- 1 for an even number of kinds, -1 for an odd one. -/
def sg (s : Int) : Int := if (s % 2 + s / 2 % 2 + s / 4 % 2 + s / 8 % 2 + s / 16 % 2 + s / 32 % 2) % 2 = 0 then 1 else -1
theorem sign_all : ∀ s : Fin 64, packets_sign.f 8 (s.val : Int) = some (sg s.val) := by decide +kernel
theorem packets_sign_ev (s : Int) (h0 : 0 ≤ s) (h1 : s < 64) : Ev (fun k => packets_sign.f k s) (sg s) := by
  obtain ⟨n, rfl⟩ := Int.eq_ofNat_of_zero_le h0
  exact Ev.of (fun k => packets_sign.mono _ k) 8 (sign_all ⟨n, by omega⟩)
theorem sg_cases (s : Int) : sg s = 1 ∨ sg s = -1 := by unfold sg; split <;> simp

/-! Plain laws of packets: valid weights, the parts of a set, and the sums over these. -/
/-! ### Valid weights -/
def okW (l : List Int) : Bool := decide (1 ≤ l.length) && decide (l.length ≤ 6) && l.all fun x => decide (1 ≤ x) && decide (x ≤ 9)
theorem okW_iff (l : List Int) : okW l = true ↔ 1 ≤ l.length ∧ l.length ≤ 6 ∧ ∀ x ∈ l, 1 ≤ x ∧ x ≤ 9 := by
  simp [okW, and_assoc]
theorem min_ev (l : List Int) (hl : l.length ≤ 6) : ∀ (d i : Nat), i + d = l.length → ∀ a, Ev (fun k => packets_weights_int_78.l0 k l a (i : Int)) ((l.drop i).foldl mn a) := by
  intro d
  induction d with
  | zero =>
    intro i hi a
    refine Ev.succ (g := fun _ => some a) (Ev.const ?_) (fun k => by rw [packets_weights_int_78.l0, if_neg (by omega)])
    rw [List.drop_of_length_le (by omega)]
    rfl
  | succ d ih =>
    intro i hi a
    refine Ev.succ (g := fun k => packets_weights_int_78.l0 k l (mn a (rd l i)) ((i + 1 : Nat) : Int)) ((ih (i + 1) (by omega) _).cast ?_) (fun k => ?_)
    · rw [rd_drop l i (by omega)]
      rfl
    · rw [packets_weights_int_78.l0, if_pos (by omega), if_pos (by omega), w_in (n := (i : Int) + 1) (by omega) (by omega)]
      push_cast
      rfl
theorem max_ev (l : List Int) (hl : l.length ≤ 6) : ∀ (d i : Nat), i + d = l.length → ∀ a, Ev (fun k => packets_weights_int_79.l0 k l a (i : Int)) ((l.drop i).foldl mx a) := by
  intro d
  induction d with
  | zero =>
    intro i hi a
    refine Ev.succ (g := fun _ => some a) (Ev.const ?_) (fun k => by rw [packets_weights_int_79.l0, if_neg (by omega)])
    rw [List.drop_of_length_le (by omega)]
    rfl
  | succ d ih =>
    intro i hi a
    refine Ev.succ (g := fun k => packets_weights_int_79.l0 k l (mx a (rd l i)) ((i + 1 : Nat) : Int)) ((ih (i + 1) (by omega) _).cast ?_) (fun k => ?_)
    · rw [rd_drop l i (by omega)]
      rfl
    · rw [packets_weights_int_79.l0, if_pos (by omega), if_pos (by omega), w_in (n := (i : Int) + 1) (by omega) (by omega)]
      push_cast
      rfl
theorem foldl_mn (c : Int) : ∀ (l : List Int) (a : Int), c ≤ l.foldl mn a ↔ c ≤ a ∧ ∀ x ∈ l, c ≤ x := by
  intro l
  induction l with
  | nil => simp
  | cons x l ih =>
    intro a
    rw [List.foldl_cons, ih]
    simp only [List.mem_cons, forall_eq_or_imp, mn, ← and_assoc]
    constructor
    · rintro ⟨h, h2⟩
      refine ⟨?_, h2⟩
      split at h <;> omega
    · rintro ⟨h, h2⟩
      refine ⟨?_, h2⟩
      split <;> omega
theorem foldl_mx (c : Int) : ∀ (l : List Int) (a : Int), l.foldl mx a ≤ c ↔ a ≤ c ∧ ∀ x ∈ l, x ≤ c := by
  intro l
  induction l with
  | nil => simp
  | cons x l ih =>
    intro a
    rw [List.foldl_cons, ih]
    simp only [List.mem_cons, forall_eq_or_imp, mx, ← and_assoc]
    constructor
    · rintro ⟨h, h2⟩
      refine ⟨?_, h2⟩
      split at h <;> omega
    · rintro ⟨h, h2⟩
      refine ⟨?_, h2⟩
      split <;> omega
theorem valid_ev (l : List Int) : Ev (fun k => packets_weights_valid.f k l) (okW l) := by
  unfold packets_weights_valid.f packets_weights_int_78.f packets_weights_int_79.f
  by_cases h1 : (l.length : Int) ≥ 1
  · refine Ev.ifPos h1 ?_
    by_cases h2 : (l.length : Int) ≤ 6
    · refine Ev.ifPos h2 ?_
      obtain ⟨x, l', rfl⟩ : ∃ x l', l = x :: l' := by
        cases l with
        | nil => simp at h1
        | cons x l' => exact ⟨x, l', rfl⟩
      have hlen : (x :: l').length ≤ 6 := by omega
      have e0 : rd (x :: l') 0 = x := rfl
      refine Ev.bind (Ev.ifNeg (by omega) (Ev.ifPos (by omega) (min_ev _ hlen l'.length 1 (by simp; omega) _))) ?_
      rw [e0]
      by_cases h3 : 1 ≤ List.foldl mn x (List.drop 1 (x :: l'))
      · refine Ev.ifPos h3 ?_
        refine Ev.bind (Ev.ifNeg (by omega) (Ev.ifPos (by omega) (max_ev _ hlen l'.length 1 (by simp; omega) _))) (Ev.const ?_)
        congr 1
        rw [Bool.eq_iff_iff, okW_iff]
        rw [foldl_mn] at h3
        simp only [decide_eq_true_eq, foldl_mx]
        simp only [List.drop_succ_cons, List.drop_zero, List.mem_cons, forall_eq_or_imp] at h3 ⊢
        constructor
        · exact fun h => ⟨by omega, hlen, ⟨h3.1, h.1⟩, fun y hy => ⟨h3.2 y hy, h.2 y hy⟩⟩
        · exact fun h => ⟨h.2.2.1.2, fun y hy => (h.2.2.2 y hy).2⟩
      · refine Ev.ifNeg h3 (Ev.const ?_)
        congr 1
        rw [eq_comm, Bool.eq_false_iff]
        intro h
        rw [okW_iff] at h
        rw [foldl_mn] at h3
        simp only [List.drop_succ_cons, List.drop_zero, List.mem_cons, forall_eq_or_imp] at h3 h
        exact h3 ⟨h.2.2.1.1, fun y hy => (h.2.2.2 y hy).1⟩
    · refine Ev.ifNeg h2 (Ev.const ?_)
      congr 1
      rw [eq_comm, Bool.eq_false_iff]
      intro h
      rw [okW_iff] at h
      omega
  · refine Ev.ifNeg h1 (Ev.const ?_)
    congr 1
    rw [eq_comm, Bool.eq_false_iff]
    intro h
    rw [okW_iff] at h
    omega
theorem Weights_go (l : List Int) (hl : l.length < 4611686018427387904) : ∀ (d i : Nat), i + d = l.length → Ev (fun k => comfitref04_Weights.l0 k l l (l.length : Int) (i : Int)) (((l.drop i).all fun x => decide (1 ≤ x) && decide (x ≤ 9)) && (decide (1 ≤ l.length) && decide (l.length ≤ 6))) := by
  intro d
  induction d with
  | zero =>
    intro i hi
    rw [List.drop_of_length_le (by omega)]
    by_cases h1 : (l.length : Int) ≥ 1
    · refine Ev.succ (g := fun _ => some (decide ((l.length : Int) ≤ 6))) (Ev.const ?_) (fun k => by rw [comfitref04_Weights.l0, if_neg (by omega), if_pos h1])
      have : 1 ≤ l.length := by omega
      simp [this]
      omega
    · refine Ev.succ (g := fun _ => some false) (Ev.const ?_) (fun k => by rw [comfitref04_Weights.l0, if_neg (by omega), if_neg h1])
      have : ¬ 1 ≤ l.length := by omega
      simp [this]
  | succ d ih =>
    intro i hi
    rw [rd_drop l i (by omega), List.all_cons]
    by_cases h1 : rd l i < 1
    · refine Ev.succ (g := fun _ => some false) (Ev.const ?_) (fun k => by rw [comfitref04_Weights.l0, if_pos (by omega), if_pos (by omega), if_pos (by omega), if_pos h1])
      have : ¬ 1 ≤ rd l i := by omega
      simp [this]
    · by_cases h2 : rd l i > 9
      · refine Ev.succ (g := fun _ => some false) (Ev.const ?_) (fun k => by rw [comfitref04_Weights.l0, if_pos (by omega), if_pos (by omega), if_pos (by omega), if_neg h1, if_pos h2])
        have : ¬ rd l i ≤ 9 := by omega
        simp [this]
      · refine Ev.succ (g := fun k => comfitref04_Weights.l0 k l l (l.length : Int) ((i + 1 : Nat) : Int)) ((ih (i + 1) (by omega)).cast ?_) (fun k => ?_)
        · have : rd l i ≤ 9 := by omega
          have : 1 ≤ rd l i := by omega
          simp [*]
        · rw [comfitref04_Weights.l0, if_pos (by omega), if_pos (by omega), if_pos (by omega), if_neg h1, if_neg h2, w_in (n := (i : Int) + 1) (by omega) (by omega)]
          push_cast
          rfl
theorem Weights_ev (l : List Int) (hl : l.length < 4611686018427387904) : Ev (fun k => comfitref04_Weights.f k l) (okW l) := by
  have := Weights_go l hl l.length 0 (by omega)
  refine Ev.cast (v := ((l.drop 0).all fun x => decide (1 ≤ x) && decide (x ≤ 9)) && (decide (1 ≤ l.length) && decide (l.length ≤ 6))) this ?_
  unfold okW
  rw [List.drop_zero, Bool.and_comm]

/-! ### Sums over lists of sets -/
/-! ### The parts of a set -/
theorem parts_dec : ∀ s : Fin 64, (partsL (s.val : Int)).length ≤ 64 ∧ ((partsL (s.val : Int)).all fun p => decide (0 ≤ p) && decide (p ≤ s.val)) = true := by decide +kernel
theorem parts_mem (s : Int) (h0 : 0 ≤ s) (h1 : s < 64) (p : Int) (hp : p ∈ partsL s) : 0 ≤ p ∧ p ≤ s := by
  obtain ⟨n, rfl⟩ := Int.eq_ofNat_of_zero_le h0
  have := (parts_dec ⟨n, by omega⟩).2
  rw [List.all_eq_true] at this
  simpa using this p hp
/-- All kinds. -/
theorem shl_dec : ∀ n : Fin 7, shl .i64 1 (n.val : Int) = 2 ^ n.val := by decide +kernel
theorem shl_ok (n : Nat) (hn : n ≤ 6) : shl .i64 1 (n : Int) = 2 ^ n := shl_dec ⟨n, by omega⟩
theorem pow_le (n : Nat) (hn : n ≤ 6) : (2 : Int) ^ n ≤ 64 ∧ 1 ≤ (2 : Int) ^ n := by
  have : n = 0 ∨ n = 1 ∨ n = 2 ∨ n = 3 ∨ n = 4 ∨ n = 5 ∨ n = 6 := by omega
  rcases this with h | h | h | h | h | h | h <;> subst h <;> decide
theorem wsum_bound : ∀ (l : List Int), (∀ x ∈ l, 1 ≤ x ∧ x ≤ 9) → ∀ p, 0 ≤ wsum l p ∧ wsum l p ≤ 9 * l.length := by
  intro l
  induction l with
  | nil => intro _ p; simp [wsum]
  | cons x l ih =>
    intro h p
    have h1 := h x (by simp)
    have h2 := ih (fun y hy => h y (by simp [hy])) (p / 2)
    simp only [wsum, List.length_cons]
    push_cast
    have hc : p % 2 = 0 ∨ p % 2 = 1 := by omega
    rcases hc with a | a <;> rw [a] <;> omega
/-! Plain laws of packets: sums of fractions. -/
theorem divInt_parts (S D : Int) (hD : 0 < D) : ∃ c : Int, 0 < c ∧ D = (Rat.divInt S D).den * c ∧ S = (Rat.divInt S D).num * c := by
  have hg : 0 < (Int.gcd S D : Int) := by have := gcd_ne S D hD; omega
  refine ⟨(Int.gcd S D : Int), hg, ?_, ?_⟩
  · have := congrArg Prod.snd (fr_divInt S D hD)
    simp only [fr] at this
    rw [this]
    exact (Int.tdiv_mul_cancel (Int.gcd_dvd_right ..)).symm
  · have := congrArg Prod.fst (fr_divInt S D hD)
    simp only [fr] at this
    rw [this]
    exact (Int.tdiv_mul_cancel (Int.gcd_dvd_left ..)).symm
theorem plus_core (S T D : Int) (hD : 0 < D) : ∃ g d e c : Int, 0 < g ∧ 0 < d ∧ 0 < e ∧ 0 < c ∧ ((Rat.divInt S D).den : Int) = d * g ∧ ((Rat.divInt T D).den : Int) = e * g ∧ (Int.gcd (Rat.divInt S D).den (Rat.divInt T D).den : Int) = g ∧
    D = d * (e * g) * c ∧ S + T = ((Rat.divInt S D).num * e + (Rat.divInt T D).num * d) * c := by
  obtain ⟨c1, h1, h2, h3⟩ := divInt_parts S D hD
  obtain ⟨c2, k1, k2, k3⟩ := divInt_parts T D hD
  generalize Rat.divInt S D = q at *
  generalize Rat.divInt T D = r at *
  have hq := q.den_pos
  have hr := r.den_pos
  obtain ⟨d, e, hco, hd, he⟩ := Nat.exists_coprime q.den r.den
  have hg : 0 < Nat.gcd q.den r.den := Nat.gcd_pos_of_pos_left _ hq
  have hdp : 0 < d := Nat.pos_of_ne_zero (by rintro rfl; omega)
  have hep : 0 < e := Nat.pos_of_ne_zero (by rintro rfl; omega)
  generalize Nat.gcd q.den r.den = g at *
  have hd' : (q.den : Int) = d * g := by exact_mod_cast hd
  have he' : (r.den : Int) = e * g := by exact_mod_cast he
  have hdvd : (e : Int) ∣ c1 := by
    have h4 : (d : Int) * c1 = e * c2 := by
      have h5 : (g : Int) * (d * c1) = g * (e * c2) := by
        have := h2.symm.trans k2
        rw [hd', he'] at this
        grind
      exact Int.eq_of_mul_eq_mul_left (by omega) h5
    have h6 : (e : Int) ∣ d * c1 := ⟨c2, h4⟩
    have h7 : Int.gcd (e : Int) d = 1 := by simpa [Int.gcd, Nat.gcd_comm] using hco
    have h8 : e ∣ d * c1.natAbs := by
      have := Int.natAbs_dvd_natAbs.2 h6
      simpa [Int.natAbs_mul] using this
    have h9 : e ∣ c1.natAbs := (Nat.Coprime.symm hco).dvd_of_dvd_mul_left h8
    exact Int.natAbs_dvd_natAbs.1 (by simpa using h9)
  obtain ⟨c, rfl⟩ := hdvd
  have hc : 0 < c := by
    exact Int.pos_of_mul_pos_right h1 (by omega : (0:Int) < e)
  have hc2 : c2 = d * c := by
    have h5 : ((e : Int) * g) * c2 = (e * g) * (d * c) := by
      have := h2.symm.trans k2
      rw [hd', he'] at this
      grind
    exact Int.eq_of_mul_eq_mul_left (by have := Int.mul_pos (show (0:Int) < e by omega) (show (0:Int) < g by omega); omega) h5
  refine ⟨g, d, e, c, by omega, by omega, by omega, hc, hd', he', ?_, ?_, ?_⟩
  · rw [hd, he, Int.gcd, Int.natAbs_natCast, Int.natAbs_natCast, Nat.gcd_mul_right, hco, Nat.one_mul]
  · rw [h2, hd']; grind
  · rw [h3, k3, hc2]; grind
theorem divInt_cancel (a b c : Int) (hb : 0 < b) (hc : 0 < c) : Rat.divInt (a * c) (b * c) = Rat.divInt a b := Rat.divInt_mul_right (by omega)
theorem le_mul_pos (a c : Int) (hc : 0 < c) : a.natAbs ≤ (a * c).natAbs := by
  rw [Int.natAbs_mul]
  exact Nat.le_mul_of_pos_right _ (by omega)
theorem ref_Plus_ev (S T D : Int) (hD : 0 < D) (hD2 : D < 9223372036854775808) (h0 : -9223372036854775808 < S + T) (h1 : S + T < 9223372036854775808) :
    Ev (fun k => comfitref04_Plus.f k (fr (Rat.divInt S D)).1 (fr (Rat.divInt S D)).2 (fr (Rat.divInt T D)).1 (fr (Rat.divInt T D)).2) (fr (Rat.divInt (S + T) D)) := by
  obtain ⟨g, d, e, c, hg, hd, he, hc, eq1, eq2, eq3, eqD, eqS⟩ := plus_core S T D hD
  have hL : 0 < d * (e * g) := Int.mul_pos hd (Int.mul_pos he hg)
  have hL2 : d * (e * g) ≤ D := by have := le_mul_pos (d * (e * g)) c hc; omega
  have hN := le_mul_pos ((Rat.divInt S D).num * e + (Rat.divInt T D).num * d) c hc
  rw [← eqS] at hN
  have hres : Rat.divInt (S + T) D = Rat.divInt ((Rat.divInt S D).num * e + (Rat.divInt T D).num * d) (d * (e * g)) := by
    rw [← divInt_cancel _ _ c hL hc, ← eqS, ← eqD]
  unfold fr at *
  simp only [] at *
  rw [hres]
  have eg : ((Rat.divInt S D).den.gcd (Rat.divInt T D).den : Int) = g := by
    rw [← eq3]; simp [Int.gcd]
  have hdg : 0 < d * g := Int.mul_pos hd hg
  have heg : 0 < e * g := Int.mul_pos he hg
  unfold comfitref04_Plus.f comfitref04_gcd.f
  refine Ev.bind (ref_gcd_ev _ _ _ (Nat.le_refl _) (by omega) (by omega)) ?_
  rw [eq3]
  refine Ev.ifNeg (by omega) (Ev.ifNeg (by omega) (Ev.ifNeg (by omega) ?_))
  rw [eq1, eq2]
  have hd1 : d ≤ d * (e * g) := by have := le_mul_pos d (e * g) heg; omega
  have t1 : Int.tdiv (d * g) g = d := Int.mul_tdiv_cancel _ (by omega)
  have t2 : Int.tdiv (d * (e * g)) (d * g) = e := by
    rw [show d * (e * g) = e * (d * g) by grind]
    exact Int.mul_tdiv_cancel _ (by omega)
  have t3 : Int.tdiv (d * (e * g)) (e * g) = d := Int.mul_tdiv_cancel _ (by omega)
  have he1 : e ≤ d * (e * g) := by have := le_mul_pos e (d * g) hdg; rw [show e * (d * g) = d * (e * g) by grind] at this; omega
  rw [t1, w_in (n := d) (by omega) (by omega), w_in (n := d * (e * g)) (by omega) (by omega), t2, t3, w_in (n := d) (by omega) (by omega), w_in (n := e) (by omega) (by omega), w_add, w_in (by omega) (by omega)]
  exact Ev.bind (ref_frac_ev _ _ hL (by omega) (by omega) (by omega)) (Ev.const rfl)
theorem packets_plus_ev (S T D : Int) (hD : 0 < D) (hD2 : D < 9223372036854775808) (h0 : -9223372036854775808 < S + T) (h1 : S + T < 9223372036854775808) :
    Ev (fun k => packets_plus.f k (fr (Rat.divInt S D)).1 (fr (Rat.divInt S D)).2 (fr (Rat.divInt T D)).1 (fr (Rat.divInt T D)).2) (fr (Rat.divInt (S + T) D)) := by
  obtain ⟨g, d, e, c, hg, hd, he, hc, eq1, eq2, eq3, eqD, eqS⟩ := plus_core S T D hD
  have hL : 0 < d * (e * g) := Int.mul_pos hd (Int.mul_pos he hg)
  have hL2 : d * (e * g) ≤ D := by have := le_mul_pos (d * (e * g)) c hc; omega
  have hN := le_mul_pos ((Rat.divInt S D).num * e + (Rat.divInt T D).num * d) c hc
  rw [← eqS] at hN
  have hres : Rat.divInt (S + T) D = Rat.divInt ((Rat.divInt S D).num * e + (Rat.divInt T D).num * d) (d * (e * g)) := by
    rw [← divInt_cancel _ _ c hL hc, ← eqS, ← eqD]
  unfold fr at *
  simp only [] at *
  rw [hres]
  have hdg : 0 < d * g := Int.mul_pos hd hg
  have heg : 0 < e * g := Int.mul_pos he hg
  have hd1 : d ≤ d * (e * g) := by have := le_mul_pos d (e * g) heg; omega
  have he1 : e ≤ d * (e * g) := by have := le_mul_pos e (d * g) hdg; rw [show e * (d * g) = d * (e * g) by grind] at this; omega
  have hdgL : d * g ≤ d * (e * g) := by have := le_mul_pos (d * g) e he; rw [show d * g * e = d * (e * g) by grind] at this; omega
  have hegL : e * g ≤ d * (e * g) := by have := le_mul_pos (e * g) d hd; rw [show e * g * d = d * (e * g) by grind] at this; omega
  unfold packets_plus.f packets_gcd.f
  refine Ev.bind (packets_gcd_ev _ _ _ (Nat.le_refl _) (by omega) (by omega)) ?_
  rw [eq3]
  refine Ev.ifNeg (by omega) ?_
  rw [eq1, eq2]
  have t1 : Int.tdiv (d * g) g = d := Int.mul_tdiv_cancel _ (by omega)
  have t2 : Int.tdiv (e * g) g = e := Int.mul_tdiv_cancel _ (by omega)
  rw [t1, t2, w_in (n := d) (by omega) (by omega), w_in (n := e) (by omega) (by omega), w_in (n := d * (e * g)) (by omega) (by omega), w_add, w_in (by omega) (by omega)]
  exact Ev.bind (packets_frac_ev _ _ hL (by omega) (by omega) (by omega)) (Ev.const rfl)

/-! Plain laws of packets' statements: the list that is asked, and that the program is awake. -/
theorem list_ok (l : List Int) : comfitlaw04_list.f l = some (l.take 8) := by
  have e : (mn (l.length : Int) 8).toNat = min l.length 8 := by unfold mn; split <;> omega
  have h0 : 0 ≤ mn (l.length : Int) 8 := by unfold mn; split <;> omega
  have h1 : mn (l.length : Int) 8 ≤ (l.length : Int) := by unfold mn; split <;> omega
  have e2 : l.take (min l.length 8) = l.take 8 := by
    by_cases h : l.length ≤ 8
    · rw [Nat.min_eq_left h, List.take_length, List.take_of_length_le h]
    · rw [Nat.min_eq_right (by omega)]
  unfold comfitlaw04_list.f slices_Clone_int_int.f
  rw [if_pos h0, if_pos h1, e, e2]
  have h3 : (l.take 8).length ≤ 8 := by rw [List.length_take]; omega
  simp only [Option.bind_some, List.length_nil, Nat.zero_add, List.nil_append]
  rw [if_pos (by omega)]
  rfl
theorem okW_take (l : List Int) : okW (l.take 8) = okW l := by
  by_cases h : l.length ≤ 8
  · rw [List.take_of_length_le h]
  · have h3 : (l.take 8).length = 8 := by rw [List.length_take]; omega
    rw [Bool.eq_iff_iff, okW_iff, okW_iff]
    constructor <;> intro h' <;> omega
theorem take_ok (l : List Int) (h : okW l = true) : l.take 8 = l := by
  rw [okW_iff] at h
  exact List.take_of_length_le (by omega)
theorem awake_ev : Ev (fun k => comfitlaw04_awake.f k) true := Ev.of (fun k => comfitlaw04_awake.mono k) 100 (by decide +kernel)

/-- A set of these weights. -/
def okS (l : List Int) (s : Int) : Bool := okW l && (decide (0 ≤ s) && decide (s < 2 ^ l.length))
theorem okS_iff (l : List Int) (s : Int) : okS l s = true ↔ okW l = true ∧ 0 ≤ s ∧ s < 2 ^ l.length := by simp [okS]
theorem noSet_ok (l : List Int) (h : okW l = true) (s : Int) : (!([s].any (noSet l.length))) = (decide (0 ≤ s) && decide (s < 2 ^ l.length)) := by
  have hk := (okW_iff l).1 h
  simp only [List.any_cons, List.any_nil, Bool.or_false, noSet, shl_ok _ hk.2.1]
  split
  · have : ¬ 0 ≤ s := by omega
    simp [this]
  · have : 0 ≤ s := by omega
    simp [this]
    rw [Bool.eq_iff_iff]
    simp
theorem isSet_ev (l : List Int) (s : Int) : Ev (fun k => packets_weights_isSet.f k l [s]) (okS l s) := by
  unfold packets_weights_isSet.f
  refine Ev.bind (valid_ev l) ?_
  unfold okS
  cases h : okW l with
  | false => exact Ev.ifNeg (by simp) (Ev.const rfl)
  | true => exact Ev.ifPos rfl (Ev.const (by rw [noSet_ok l h s, Bool.true_and]))
theorem Set_ev (l : List Int) (s : Int) (hl : l.length < 4611686018427387904) : Ev (fun k => comfitref04_Set.f k l s) (okS l s) := by
  unfold comfitref04_Set.f
  refine Ev.bind (Weights_ev l hl) ?_
  unfold okS
  cases h : okW l with
  | false => exact Ev.ifNeg (by simp) (Ev.const rfl)
  | true =>
    have hk := (okW_iff l).1 h
    refine Ev.ifPos rfl ?_
    by_cases h0 : s ≥ 0
    · exact Ev.ifPos h0 (Ev.const (by rw [shl_ok _ hk.2.1, decide_eq_true (show 0 ≤ s from h0)]; rfl))
    · exact Ev.ifNeg h0 (Ev.const (by rw [decide_eq_false (show ¬ 0 ≤ s from h0)]; rfl))
theorem okS_take (l : List Int) (s : Int) : okS (l.take 8) s = okS l s := by
  unfold okS
  rw [okW_take]
  cases h : okW l with
  | false => rfl
  | true => rw [take_ok l h]
end Go.Proofs.Ytigmhomfadimnaa.Pure
