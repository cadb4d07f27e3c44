/- Plain laws for the least price: the least cost from a place on, as a function of the masses of good and bad lots; where taking, leaving and going on are best. -/
import Derived.Test.YtdppnmfljfdhaaaQMWise
set_option linter.unusedVariables false
set_option linter.unusedSimpArgs false
namespace Go.Proofs.Ytdppnmfljfdhaaa.Pure
open Go.RowKit Go.Proofs.Ytdppnmfljfdhaaa.X Go.Proofs.YtdppnmfljfdhaaaW.PrintWords Go.Proofs.YtdppnmfljfdhaaaW.PrintLast Go.Proofs.YtdppnmfljfdhaaaW.PrintMore

theorem mn_add (a b c d : Int) : mn a b + mn c d ≤ mn (a + c) (b + d) := by unfold mn; repeat' split; all_goals omega
theorem mn_le_mn {a b c d : Int} (h : a ≤ c) (h' : b ≤ d) : mn a b ≤ mn c d := by unfold mn; repeat' split; all_goals omega
theorem mn_nonneg {a b : Int} (h : 0 ≤ a) (h' : 0 ≤ b) : 0 ≤ mn a b := by unfold mn; split <;> omega
theorem mn_or (a b : Int) : mn a b = a ∨ mn a b = b := by unfold mn; split <;> simp
/-- The least cost from a place on where the masses are u (of good lots) and v (of bad ones), d items still to come: what is paid from here on, times the powers still to come. -/
def T8.E (t : T8) : Nat → Int → Int → Int
  | 0, u, v => mn (t.tk * v) (t.lv * u)
  | d + 1, u, v => mn (mn (t.tk * v * t.bo ^ (d + 1)) (t.lv * u * t.go ^ (d + 1))) (u * t.go ^ (d + 1) + v * t.bo ^ (d + 1) + T8.E t d (u * (t.go - t.gy)) (v * (t.bo - t.by_)) + T8.E t d (u * t.gy) (v * t.by_))
/-- What going on costs at least. -/
def T8.C (t : T8) (d : Nat) (u v : Int) : Int := u * t.go ^ (d + 1) + v * t.bo ^ (d + 1) + t.E d (u * (t.go - t.gy)) (v * (t.bo - t.by_)) + t.E d (u * t.gy) (v * t.by_)
section
variable {t : T8}
theorem T8.E_succ (d : Nat) (u v : Int) : t.E (d + 1) u v = mn (mn (t.tk * v * t.bo ^ (d + 1)) (t.lv * u * t.go ^ (d + 1))) (t.C d u v) := rfl
theorem T8.E_super : ∀ (d : Nat) (u v u' v' : Int), t.E d u v + t.E d u' v' ≤ t.E d (u + u') (v + v')
  | 0, u, v, u', v' => by
    simp only [T8.E]
    rw [Int.mul_add, Int.mul_add]
    exact mn_add _ _ _ _
  | d + 1, u, v, u', v' => by
    have h1 := T8.E_super d (u * (t.go - t.gy)) (v * (t.bo - t.by_)) (u' * (t.go - t.gy)) (v' * (t.bo - t.by_))
    have h2 := T8.E_super d (u * t.gy) (v * t.by_) (u' * t.gy) (v' * t.by_)
    rw [← Int.add_mul, ← Int.add_mul] at h1 h2
    have hC : t.C d u v + t.C d u' v' ≤ t.C d (u + u') (v + v') := by
      unfold T8.C
      rw [Int.add_mul u u' (t.go ^ (d + 1)), Int.add_mul v v' (t.bo ^ (d + 1))]
      omega
    simp only [T8.E_succ]
    refine Int.le_trans (mn_add _ _ _ _) (mn_le_mn (Int.le_trans (mn_add _ _ _ _) (Int.le_of_eq ?_)) hC)
    congr 1
    · rw [Int.mul_add, Int.add_mul]
    · rw [Int.mul_add, Int.add_mul]
theorem T8.E_zero : ∀ d : Nat, t.E d 0 0 = 0
  | 0 => by simp [T8.E, mn]
  | d + 1 => by simp [T8.E, T8.E_zero d, mn]
theorem T8.C_zero (d : Nat) : t.C d 0 0 = 0 := by simp [T8.C, T8.E_zero d]
theorem T8.E_scale (w : Int) (hw : 0 ≤ w) : ∀ (d : Nat) (u v : Int), t.E d (w * u) (w * v) = w * t.E d u v := by
  rcases Int.lt_or_le 0 w with h | h
  · intro d
    induction d with
    | zero =>
      intro u v
      simp only [T8.E]
      rw [← mn_mul w _ _ h]
      congr 1
      · rw [← Int.mul_assoc, Int.mul_comm t.tk w, Int.mul_assoc]
      · rw [← Int.mul_assoc, Int.mul_comm t.lv w, Int.mul_assoc]
    | succ d ih =>
      intro u v
      have e1 : t.C d (w * u) (w * v) = w * t.C d u v := by
        unfold T8.C
        rw [Int.mul_assoc w u (t.go - t.gy), Int.mul_assoc w v (t.bo - t.by_), Int.mul_assoc w u t.gy, Int.mul_assoc w v t.by_, ih, ih, Int.mul_assoc w u, Int.mul_assoc w v, Int.mul_add, Int.mul_add, Int.mul_add]
      simp only [T8.E_succ]
      rw [e1, ← mn_mul w _ _ h, ← mn_mul w _ _ h]
      congr 2
      · rw [← Int.mul_assoc, ← Int.mul_assoc, Int.mul_comm t.tk w, Int.mul_assoc w]
      · rw [← Int.mul_assoc, ← Int.mul_assoc, Int.mul_comm t.lv w, Int.mul_assoc w]
  · obtain rfl : w = 0 := by omega
    intro d u v
    simp only [Int.zero_mul, T8.E_zero]
theorem T8.Ok.E_nonneg (h : t.Ok) : ∀ (d : Nat) (u v : Int), 0 ≤ u → 0 ≤ v → 0 ≤ t.E d u v := by
  have hg := h.g
  have hb := h.b
  have hc := h.c
  intro d
  induction d with
  | zero => intro u v hu hv; exact mn_nonneg (Int.mul_nonneg hc.1 hv) (Int.mul_nonneg hc.2.2.1 hu)
  | succ d ih =>
    intro u v hu hv
    have pg := pow_nonneg' t.go (by have := hg.1; omega) (d + 1)
    have pb := pow_nonneg' t.bo (by have := hb.1; omega) (d + 1)
    have a := ih (u * (t.go - t.gy)) (v * (t.bo - t.by_)) (Int.mul_nonneg hu (by have := hg.2.2.2; omega)) (Int.mul_nonneg hv (by have := hb.2.2.2; omega))
    have b := ih (u * t.gy) (v * t.by_) (Int.mul_nonneg hu hg.2.2.1) (Int.mul_nonneg hv hb.2.2.1)
    have c := Int.mul_nonneg hu pg
    have e := Int.mul_nonneg hv pb
    rw [T8.E_succ]
    refine mn_nonneg (mn_nonneg (Int.mul_nonneg (Int.mul_nonneg hc.1 hv) pb) (Int.mul_nonneg (Int.mul_nonneg hc.2.2.1 hu) pg)) ?_
    unfold T8.C
    omega
theorem T8.E_take (d : Nat) (u v : Int) : t.E d u v ≤ t.tk * v * t.bo ^ d := by
  cases d with
  | zero => simp only [T8.E, Int.pow_zero, Int.mul_one]; exact mn_left _ _
  | succ d => rw [T8.E_succ]; exact Int.le_trans (mn_left _ _) (mn_left _ _)
theorem T8.E_leave (d : Nat) (u v : Int) : t.E d u v ≤ t.lv * u * t.go ^ d := by
  cases d with
  | zero => simp only [T8.E, Int.pow_zero, Int.mul_one]; exact mn_right _ _
  | succ d => rw [T8.E_succ]; exact Int.le_trans (mn_left _ _) (mn_right _ _)
theorem T8.E_go (d : Nat) (u v : Int) : t.E (d + 1) u v ≤ t.C d u v := by rw [T8.E_succ]; exact mn_right _ _
theorem T8.E_one (d : Nat) (u v : Int) : t.E (d + 1) u v = t.tk * v * t.bo ^ (d + 1) ∨ t.E (d + 1) u v = t.lv * u * t.go ^ (d + 1) ∨ t.E (d + 1) u v = t.C d u v := by
  rw [T8.E_succ]
  rcases mn_or (mn (t.tk * v * t.bo ^ (d + 1)) (t.lv * u * t.go ^ (d + 1))) (t.C d u v) with h | h
  · rcases mn_or (t.tk * v * t.bo ^ (d + 1)) (t.lv * u * t.go ^ (d + 1)) with h' | h'
    · exact Or.inl (by rw [h, h'])
    · exact Or.inr (Or.inl (by rw [h, h']))
  · exact Or.inr (Or.inr h)
theorem T8.E_two (u v : Int) : t.E 0 u v = t.tk * v * t.bo ^ 0 ∨ t.E 0 u v = t.lv * u * t.go ^ 0 := by
  simp only [T8.E, Int.pow_zero, Int.mul_one]
  exact mn_or _ _
/-- Where taking is best it is so where bad lots are rarer. -/
theorem T8.Ok.take_down (h : t.Ok) (d : Nat) {u v u' v' : Int} (hu : 0 ≤ u) (hv : 0 ≤ v) (hu' : 0 ≤ u') (hv' : 0 ≤ v') (hne : ¬ (u = 0 ∧ v = 0)) (hx : v' * u ≤ v * u') (ht : t.E d u v = t.tk * v * t.bo ^ d) : t.E d u' v' = t.tk * v' * t.bo ^ d := by
  refine Int.le_antisymm (T8.E_take d u' v') ?_
  by_cases h0 : v = 0
  · subst h0
    have hu0 : 0 < u := by omega
    have : v' * u ≤ 0 := by rw [Int.zero_mul] at hx; exact hx
    have hv0 : v' = 0 := by
      rcases Int.lt_or_le 0 v' with h1 | h1
      · have := Int.mul_pos h1 hu0; omega
      · omega
    subst hv0
    rw [Int.mul_zero, Int.zero_mul]
    exact h.E_nonneg d u' 0 hu' (Int.le_refl _)
  · have hv0 : 0 < v := by omega
    have e1 : v * t.E d u' v' = t.E d (v' * u + (v * u' - v' * u)) (v' * v + 0) := by
      rw [← T8.E_scale v hv d u' v']
      congr 1
      · omega
      · rw [Int.add_zero, Int.mul_comm]
    have e2 := T8.E_super (t := t) d (v' * u) (v' * v) (v * u' - v' * u) 0
    rw [T8.E_scale v' hv' d u v, ht, ← e1] at e2
    have e3 := h.E_nonneg d (v * u' - v' * u) 0 (by omega) (Int.le_refl _)
    have e4 : v' * (t.tk * v * t.bo ^ d) = v * (t.tk * v' * t.bo ^ d) := by grind
    exact Int.le_of_mul_le_mul_left (show v * (t.tk * v' * t.bo ^ d) ≤ v * t.E d u' v' by omega) hv0
/-- Where leaving is best it is so where bad lots are more frequent. -/
theorem T8.Ok.leave_up (h : t.Ok) (d : Nat) {u v u' v' : Int} (hu : 0 ≤ u) (hv : 0 ≤ v) (hu' : 0 ≤ u') (hv' : 0 ≤ v') (hne : ¬ (u = 0 ∧ v = 0)) (hx : v * u' ≤ v' * u) (ht : t.E d u v = t.lv * u * t.go ^ d) : t.E d u' v' = t.lv * u' * t.go ^ d := by
  refine Int.le_antisymm (T8.E_leave d u' v') ?_
  by_cases h0 : u = 0
  · subst h0
    have hv0 : 0 < v := by omega
    have : v * u' ≤ 0 := by rw [Int.mul_zero] at hx; exact hx
    have hu0 : u' = 0 := by
      rcases Int.lt_or_le 0 u' with h1 | h1
      · have := Int.mul_pos hv0 h1; omega
      · omega
    subst hu0
    rw [Int.mul_zero, Int.zero_mul]
    exact h.E_nonneg d 0 v' (Int.le_refl _) hv'
  · have hu0 : 0 < u := by omega
    have e1 : u * t.E d u' v' = t.E d (u' * u + 0) (u' * v + (v' * u - v * u')) := by
      rw [← T8.E_scale u hu d u' v']
      congr 1
      · rw [Int.add_zero, Int.mul_comm]
      · have a1 : u' * v = v * u' := Int.mul_comm ..
        have a2 : u * v' = v' * u := Int.mul_comm ..
        omega
    have e2 := T8.E_super (t := t) d (u' * u) (u' * v) 0 (v' * u - v * u')
    rw [T8.E_scale u' hu' d u v, ht, ← e1] at e2
    have e3 := h.E_nonneg d 0 (v' * u - v * u') (Int.le_refl _) (by omega)
    have e4 : u' * (t.lv * u * t.go ^ d) = u * (t.lv * u' * t.go ^ d) := by grind
    exact Int.le_of_mul_le_mul_left (show u * (t.lv * u' * t.go ^ d) ≤ u * t.E d u' v' by omega) hu0
end
theorem first_not (P : Nat → Prop) (hP : ∀ i, Decidable (P i)) : ∀ k : Nat, ∃ m : Nat, m ≤ k ∧ (∀ i, i < m → P i) ∧ (m < k → ¬ P m)
  | 0 => ⟨0, Nat.le_refl _, fun i h => absurd h (by omega), fun h => absurd h (by omega)⟩
  | k + 1 => by
    obtain ⟨m, h1, h2, h3⟩ := first_not P hP k
    by_cases hm : m < k
    · exact ⟨m, by omega, h2, fun _ => h3 hm⟩
    · obtain rfl : m = k := by omega
      by_cases hp : P m
      · refine ⟨m + 1, Nat.le_refl _, fun i hi => ?_, fun h => absurd h (by omega)⟩
        by_cases he : i = m
        · subst he; exact hp
        · exact h2 i (by omega)
      · exact ⟨m, by omega, h2, fun _ => hp⟩
theorem last_not (Q : Nat → Prop) (hQ : ∀ i, Decidable (Q i)) (m : Nat) : ∀ d : Nat, ∃ l : Nat, m ≤ l ∧ l ≤ m + d ∧ (∀ i, l ≤ i → i < m + d → Q i) ∧ (m < l → ¬ Q (l - 1))
  | 0 => ⟨m, Nat.le_refl _, Nat.le_refl _, fun i h1 h2 => absurd h2 (by omega), fun h => absurd h (by omega)⟩
  | d + 1 => by
    obtain ⟨l, h1, h2, h3, h4⟩ := last_not Q hQ m d
    by_cases hq : Q (m + d)
    · refine ⟨l, h1, by omega, fun i a b => ?_, h4⟩
      by_cases he : i = m + d
      · subst he; exact hq
      · exact h3 i a (by omega)
    · exact ⟨m + d + 1, by omega, Nat.le_refl _, fun i a b => absurd b (by omega), fun _ => by rw [show m + d + 1 - 1 = m + d by omega]; exact hq⟩
section
variable {t : T8}
/-- The bounds for taking (places below m) and leaving (places from l on) that are best at all places at once. -/
theorem T8.Ok.bounds (h : t.Ok) (d k : Nat) (u v : Nat → Int) (hu : ∀ i, 0 ≤ u i) (hv : ∀ i, 0 ≤ v i) (hx : ∀ i j, i < j → v i * u j ≤ v j * u i) :
    ∃ m l : Nat, m ≤ l ∧ l ≤ k + 1 ∧ (d = 0 → l = m) ∧ (∀ i, i < m → t.E d (u i) (v i) = t.tk * v i * t.bo ^ d) ∧ (∀ i, l ≤ i → i < k + 1 → t.E d (u i) (v i) = t.lv * u i * t.go ^ d) ∧
      (∀ e i, d = e + 1 → m ≤ i → i < l → t.E d (u i) (v i) = t.C e (u i) (v i)) := by
  obtain ⟨m, hm1, hm2, hm3⟩ := first_not (fun i => t.E d (u i) (v i) = t.tk * v i * t.bo ^ d) (fun i => inferInstance) (k + 1)
  have noTake : ∀ i, m ≤ i → i < k + 1 → ¬ (u i = 0 ∧ v i = 0) → ¬ t.E d (u i) (v i) = t.tk * v i * t.bo ^ d := by
    intro i h1 h2 h3 h4
    refine hm3 (by omega) ?_
    by_cases he : m = i
    · subst he; exact h4
    · exact h.take_down d (hu i) (hv i) (hu m) (hv m) h3 (hx m i (by omega)) h4
  cases d with
  | zero =>
    refine ⟨m, m, Nat.le_refl _, hm1, fun _ => rfl, hm2, fun i h1 h2 => ?_, fun e i he => absurd he (by omega)⟩
    by_cases hz : u i = 0 ∧ v i = 0
    · rw [hz.1, hz.2, T8.E_zero]; simp
    · rcases T8.E_two (t := t) (u i) (v i) with h3 | h3
      · exact absurd h3 (noTake i h1 h2 hz)
      · exact h3
  | succ e =>
    obtain ⟨l, hl1, hl2, hl3, hl4⟩ := last_not (fun i => t.E (e + 1) (u i) (v i) = t.lv * u i * t.go ^ (e + 1)) (fun i => inferInstance) m (k + 1 - m)
    refine ⟨m, l, hl1, by omega, fun he => absurd he (by omega), hm2, fun i h1 h2 => hl3 i h1 (by omega), fun e' i he h1 h2 => ?_⟩
    obtain rfl : e = e' := by omega
    by_cases hz : u i = 0 ∧ v i = 0
    · rw [hz.1, hz.2, T8.E_zero, T8.C_zero]
    · rcases T8.E_one (t := t) e (u i) (v i) with h3 | h3 | h3
      · exact absurd h3 (noTake i h1 (by omega) hz)
      · refine absurd ?_ (hl4 (by omega))
        by_cases he : l - 1 = i
        · rw [he]; exact h3
        · exact h.leave_up (e + 1) (hu i) (hv i) (hu (l - 1)) (hv (l - 1)) hz (hx i (l - 1) (by omega)) h3
      · exact h3
end
end Go.Proofs.Ytdppnmfljfdhaaa.Pure
