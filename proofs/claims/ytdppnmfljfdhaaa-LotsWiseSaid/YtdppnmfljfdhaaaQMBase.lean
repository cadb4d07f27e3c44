/- Plain laws of lots: rounds without end, wrapped numbers, fractions as rationals, powers. -/
import Derived.Test.YtdppnmfljfdhaaaQXP
import Derived.Test.YtdppnmfljfdhaaaQXR
import Derived.Test.YtdppnmfljfdhaaaQXcomfitlaw02awake
set_option linter.unusedVariables false
set_option linter.unusedSimpArgs false
namespace Go.Proofs.Ytdppnmfljfdhaaa.Pure
open Go.RowKit Go.Proofs.Ytdppnmfljfdhaaa.X Go.Proofs.YtdppnmfljfdhaaaW.PrintWords Go.Proofs.YtdppnmfljfdhaaaW.PrintLast Go.Proofs.YtdppnmfljfdhaaaW.PrintMore

def Ev {α : Type} (g : Nat → Option α) (v : α) : Prop := ∃ k0, ∀ k, k0 ≤ k → g k = some v
theorem Ev.get {α : Type} {g : Nat → Option α} {v : α} (h : Ev g v) : ∃ k, g k = some v := ⟨h.choose, h.choose_spec _ (Nat.le_refl _)⟩
theorem Ev.const {α : Type} {o : Option α} {v : α} (h : o = some v) : Ev (fun _ => o) v := ⟨0, fun _ _ => h⟩
theorem Ev.bind {α β : Type} {g : Nat → Option α} {v : α} (h : Ev g v) {f : Nat → α → Option β} {u : β} (h2 : Ev (fun k => f k v) u) : Ev (fun k => (g k).bind (f k)) u := by
  obtain ⟨a, ha⟩ := h
  obtain ⟨b, hb⟩ := h2
  exact ⟨max a b, fun k hk => by show (g k).bind (f k) = _; rw [ha k (by omega)]; exact hb k (by omega)⟩
theorem Ev.succ {α : Type} {g f : Nat → Option α} {v : α} (h : Ev g v) (hf : ∀ k, f (k + 1) = g k) : Ev f v := by
  obtain ⟨a, ha⟩ := h
  refine ⟨a + 1, fun k hk => ?_⟩
  obtain ⟨m, rfl⟩ : ∃ m, k = m + 1 := ⟨k - 1, by omega⟩
  rw [hf, ha m (by omega)]
theorem Ev.ifPos {α : Type} {c : Prop} [Decidable c] {f g : Nat → Option α} {v : α} (hc : c) (h : Ev f v) : Ev (fun k => if c then f k else g k) v := by
  obtain ⟨a, ha⟩ := h
  exact ⟨a, fun k hk => by simp only [if_pos hc]; exact ha k hk⟩
theorem Ev.ifNeg {α : Type} {c : Prop} [Decidable c] {f g : Nat → Option α} {v : α} (hc : ¬ c) (h : Ev g v) : Ev (fun k => if c then f k else g k) v := by
  obtain ⟨a, ha⟩ := h
  exact ⟨a, fun k hk => by simp only [if_neg hc]; exact ha k hk⟩
theorem Ev.of {α : Type} {g : Nat → Option α} {v : α} (hm : ∀ k, LeO (g k) (g (k + 1))) (k0 : Nat) (h : g k0 = some v) : Ev g v := by
  refine ⟨k0, fun k hk => ?_⟩
  obtain ⟨d, rfl⟩ : ∃ d, k = k0 + d := ⟨k - k0, by omega⟩
  clear hk
  induction d with
  | zero => exact h
  | succ d ih => exact hm _ _ ih
theorem Ev.cast {α : Type} {g : Nat → Option α} {v u : α} (h : Ev g v) (e : v = u) : Ev g u := e ▸ h

/-! ### wrap64 -/
theorem w_in {n : Int} (h0 : -9223372036854775808 ≤ n) (h1 : n < 9223372036854775808) : wrap64 n = n := by unfold wrap64; omega
theorem w_emod (n : Int) : wrap64 n % 18446744073709551616 = n % 18446744073709551616 := by unfold wrap64; omega
theorem w_eq {a b : Int} (h : a % 18446744073709551616 = b % 18446744073709551616) : wrap64 a = wrap64 b := by unfold wrap64; omega
theorem w_add (a b : Int) : wrap64 (wrap64 a + wrap64 b) = wrap64 (a + b) := by unfold wrap64; omega
theorem w_mul (a b : Int) : wrap64 (wrap64 a * wrap64 b) = wrap64 (a * b) := by
  apply w_eq
  rw [Int.mul_emod, w_emod, w_emod, ← Int.mul_emod]
theorem w_mull (a b : Int) : wrap64 (wrap64 a * b) = wrap64 (a * b) := by
  apply w_eq
  rw [Int.mul_emod, w_emod, ← Int.mul_emod]
theorem w_mulr (a b : Int) : wrap64 (a * wrap64 b) = wrap64 (a * b) := by
  apply w_eq
  rw [Int.mul_emod, w_emod, ← Int.mul_emod]

/-! ### gcd -/
theorem gcd_tmod (a b : Int) : Int.gcd b (Int.tmod a b) = Int.gcd a b := by
  have h : Int.tmod a b = a - b * Int.tdiv a b := by have := Int.mul_tdiv_add_tmod a b; omega
  rw [h, Int.gcd_comm a b]
  simp
theorem tmod_lt (a b : Int) (hb : b ≠ 0) : (Int.tmod a b).natAbs < b.natAbs := by
  rw [Int.natAbs_tmod]
  exact Nat.mod_lt _ (by omega)
theorem mx_abs (a : Int) (h : -9223372036854775808 < a) (h2 : a < 9223372036854775808) : mx a (wrap64 (-a)) = (a.natAbs : Int) := by
  rw [w_in (by omega) (by omega)]
  unfold mx
  split <;> omega
/-- A fraction as the program keeps it. -/
def fr (q : Rat) : Int × Int := (q.num, (q.den : Int))
theorem fr_divInt (a b : Int) (hb : 0 < b) : fr (Rat.divInt a b) = (Int.tdiv a (Int.gcd a b), Int.tdiv b (Int.gcd a b)) := by
  unfold fr
  rw [Rat.num_divInt, Rat.den_divInt, if_neg (by omega), Int.sign_eq_one_of_pos hb, Int.one_mul, Int.gcd_comm b a]
  have h1 : (Int.gcd a b : Int) ∣ a := Int.gcd_dvd_left ..
  have h2 : (Int.gcd a b : Int) ∣ b := Int.gcd_dvd_right ..
  rw [Int.tdiv_eq_ediv_of_dvd h1, Int.tdiv_eq_ediv_of_dvd h2]
  congr 1
  push_cast
  rw [Int.natAbs_of_nonneg (by omega)]
theorem tdiv_w (a g : Int) (ha : -9223372036854775808 < a) (ha2 : a < 9223372036854775808) : wrap64 (Int.tdiv a g) = Int.tdiv a g := by
  have h1 : (Int.tdiv a g).natAbs ≤ a.natAbs := by
    rw [Int.natAbs_tdiv]
    exact Nat.div_le_self _ _
  exact w_in (by omega) (by omega)
theorem gcd_ne (a b : Int) (hb : 0 < b) : ¬ ((Int.gcd a b : Int) = 0) := by
  intro h
  have h' : Int.gcd a b = 0 := by omega
  rw [Int.gcd_eq_zero_iff] at h'
  omega
/-- The program's loop for a fraction's lowest terms. -/
theorem lots_frac_go : ∀ (n : Nat) (x y a b : Int), b.natAbs ≤ n → a.natAbs < 9223372036854775808 → b.natAbs < 9223372036854775808 → -9223372036854775808 < x → x < 9223372036854775808 → -9223372036854775808 < y → y < 9223372036854775808 → Int.gcd a b ≠ 0 →
    Ev (fun k => lots_frac.l0 k x y a b) (Int.tdiv x (Int.gcd a b), Int.tdiv y (Int.gcd a b)) := by
  intro n
  induction n with
  | zero =>
    intro x y a b hb ha _ hx hx2 hy hy2 hg
    obtain rfl : b = 0 := by omega
    have hg' : ¬ ((a.natAbs : Int) = 0) := by simpa using hg
    refine Ev.succ (g := fun _ => some (wrap64 (Int.tdiv x (a.natAbs : Int)), wrap64 (Int.tdiv y (a.natAbs : Int)))) (Ev.const (by rw [tdiv_w x _ hx hx2, tdiv_w y _ hy hy2]; simp)) (fun k => by rw [lots_frac.l0, if_pos rfl, mx_abs a (by omega) (by omega), if_neg hg'])
  | succ n ih =>
    intro x y a b hb ha hb2 hx hx2 hy hy2 hg
    by_cases h0 : b = 0
    · exact (ih x y a b (by omega) ha hb2 hx hx2 hy hy2 hg)
    · have hlt := tmod_lt a b h0
      refine Ev.succ (g := fun k => lots_frac.l0 k x y b (Int.tmod a b)) ((ih x y b (Int.tmod a b) (by omega) hb2 (by omega) hx hx2 hy hy2 (by rw [gcd_tmod]; exact hg)).cast (by rw [gcd_tmod])) (fun k => by rw [lots_frac.l0, if_neg h0])
theorem ref_frac_go : ∀ (n : Nat) (x y a b : Int), b.natAbs ≤ n → 0 ≤ a → 0 ≤ b → -9223372036854775808 < x → x < 9223372036854775808 → -9223372036854775808 < y → y < 9223372036854775808 → Int.gcd a b ≠ 0 →
    Ev (fun k => comfitref02_frac.l0 k x y a b) (Int.tdiv x (Int.gcd a b), Int.tdiv y (Int.gcd a b)) := by
  intro n
  induction n with
  | zero =>
    intro x y a b hb ha _ hx hx2 hy hy2 hg
    obtain rfl : b = 0 := by omega
    have hg' : ¬ (a = 0) := by simpa using hg
    have e : ((Int.gcd a 0 : Nat) : Int) = a := by simp; omega
    refine Ev.succ (g := fun _ => some (wrap64 (Int.tdiv x a), wrap64 (Int.tdiv y a))) (Ev.const (by rw [e, tdiv_w x _ hx hx2, tdiv_w y _ hy hy2])) (fun k => by rw [comfitref02_frac.l0, if_pos rfl, if_neg hg'])
  | succ n ih =>
    intro x y a b hb ha hb2 hx hx2 hy hy2 hg
    by_cases h0 : b = 0
    · exact (ih x y a b (by omega) ha hb2 hx hx2 hy hy2 hg)
    · have hlt := tmod_lt a b h0
      have hnn : 0 ≤ Int.tmod a b := Int.tmod_nonneg _ ha
      refine Ev.succ (g := fun k => comfitref02_frac.l0 k x y b (Int.tmod a b)) ((ih x y b (Int.tmod a b) (by omega) hb2 hnn hx hx2 hy hy2 (by rw [gcd_tmod]; exact hg)).cast (by rw [gcd_tmod])) (fun k => by rw [comfitref02_frac.l0, if_neg h0])

/-! ### Fractions -/
theorem lots_frac_ev (a b : Int) (hb : 0 < b) (hb2 : b < 9223372036854775808) (ha : -9223372036854775808 < a) (ha2 : a < 9223372036854775808) : Ev (fun k => lots_frac.f k a b) (fr (Rat.divInt a b)) := by
  unfold lots_frac.f
  rw [fr_divInt a b hb]
  exact lots_frac_go b.natAbs a b a b (Nat.le_refl _) (by omega) (by omega) ha ha2 (by omega) hb2 (by have := gcd_ne a b hb; omega)
theorem ref_frac_ev (a b : Int) (hb : 0 < b) (hb2 : b < 9223372036854775808) (ha : -9223372036854775808 < a) (ha2 : a < 9223372036854775808) : Ev (fun k => comfitref02_frac.f k a b) (fr (Rat.divInt a b)) := by
  unfold comfitref02_frac.f
  rw [fr_divInt a b hb, mx_abs a ha ha2]
  have hg : Int.gcd (a.natAbs : Int) b = Int.gcd a b := by simp [Int.gcd]
  rw [← hg]
  exact ref_frac_go b.natAbs a b a.natAbs b (Nat.le_refl _) (by omega) (by omega) ha ha2 (by omega) hb2 (by rw [hg]; have := gcd_ne a b hb; omega)
theorem power_ev (a : Int) : ∀ (d : Nat) (i n acc : Int), n - i = d → 0 ≤ i → n < 1000 → Ev (fun k => lots_power.l0 k a (wrap64 acc) n i) (wrap64 (acc * a ^ d)) := by
  intro d
  induction d with
  | zero =>
    intro i n acc hd hi hn
    exact Ev.succ (g := fun _ => some (wrap64 acc)) (Ev.const (by simp)) (fun k => by rw [lots_power.l0, if_neg (by omega)])
  | succ d ih =>
    intro i n acc hd hi hn
    refine Ev.succ (g := fun k => lots_power.l0 k a (wrap64 (acc * a)) n (i + 1)) ((ih (i + 1) n (acc * a) (by omega) (by omega) hn).cast ?_) (fun k => ?_)
    · rw [Int.mul_assoc, Int.pow_succ, Int.mul_comm (a ^ d)]
    · rw [lots_power.l0, if_pos (by omega), w_mull, w_in (n := i + 1) (by omega) (by omega)]
theorem lots_power_ev (a n : Int) (h0 : 0 ≤ n) (h1 : n < 1000) : Ev (fun k => lots_power.f k a n) (wrap64 (a ^ n.toNat)) := by
  have := power_ev a n.toNat 0 n 1 (by omega) (by omega) h1
  simpa [lots_power.f, w_in] using this
theorem ref_power_ev' (a : Int) : ∀ (d : Nat) (i n acc : Int), n - i = d → 0 ≤ i → n < 1000 → Ev (fun k => comfitref02_power.l0 k a (wrap64 acc) n i) (wrap64 (acc * a ^ d)) := by
  intro d
  induction d with
  | zero =>
    intro i n acc hd hi hn
    exact Ev.succ (g := fun _ => some (wrap64 acc)) (Ev.const (by simp)) (fun k => by rw [comfitref02_power.l0, if_neg (by omega)])
  | succ d ih =>
    intro i n acc hd hi hn
    refine Ev.succ (g := fun k => comfitref02_power.l0 k a (wrap64 (acc * a)) n (i + 1)) ((ih (i + 1) n (acc * a) (by omega) (by omega) hn).cast ?_) (fun k => ?_)
    · rw [Int.mul_assoc, Int.pow_succ, Int.mul_comm (a ^ d)]
    · rw [comfitref02_power.l0, if_pos (by omega), w_mull, w_in (n := i + 1) (by omega) (by omega)]
theorem ref_power_ev (a n : Int) (h0 : 0 ≤ n) (h1 : n < 1000) : Ev (fun k => comfitref02_power.f k a n) (wrap64 (a ^ n.toNat)) := by
  have := ref_power_ev' a n.toNat 0 n 1 (by omega) (by omega) h1
  simpa [comfitref02_power.f, w_in] using this
theorem awake_ev : Ev (fun k => comfitlaw02_awake.f k) true := Ev.of (fun k => comfitlaw02_awake.mono k) 100 (by decide +kernel)
end Go.Proofs.Ytdppnmfljfdhaaa.Pure
