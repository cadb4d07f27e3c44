/- Plain laws of packets: the sums over the parts of at most six weights stay within 63 bits over one denominator (kernel reckons all sorted lists). -/
set_option linter.unusedVariables false
set_option linter.unusedSimpArgs false
namespace Go.Proofs.Ytigmhomfadimnaa.Pure

/-- The sums of all parts of a list, the greatest part first. -/
def sumsN : List Nat → List Nat
  | [] => [0]
  | x :: l => (sumsN l).flatMap fun y => [y + x, y]
/-- The same, each with 'an even number'. -/
def dscS : List Nat → List (Bool × Nat)
  | [] => [(true, 0)]
  | x :: l => (dscS l).flatMap fun b => [(!b.1, b.2 + x), (b.1, b.2)]
theorem dscS_snd : ∀ l : List Nat, (dscS l).map Prod.snd = sumsN l := by
  intro l
  induction l with
  | nil => rfl
  | cons x l ih =>
    rw [dscS, sumsN, ← ih, List.map_flatMap, List.flatMap_map]
    rfl
def csum (D A : Nat) : List Nat → Nat
  | [] => 0
  | y :: S => A * (D / y) + csum D A S
theorem csum_perm (D A : Nat) {S S' : List Nat} (h : S.Perm S') : csum D A S = csum D A S' := by
  induction h with
  | nil => rfl
  | cons x _ ih => simp only [csum, ih]
  | swap x y _ => simp only [csum]; omega
  | trans _ _ h1 h2 => exact h1.trans h2
theorem flatMap_perm {α β : Type} {l l' : List α} (f : α → List β) (h : l.Perm l') : (l.flatMap f).Perm (l'.flatMap f) := by
  induction h with
  | nil => exact List.Perm.refl _
  | cons x _ ih => simp only [List.flatMap_cons]; exact List.Perm.append_left _ ih
  | swap x y l =>
    simp only [List.flatMap_cons, ← List.append_assoc]
    exact List.Perm.append_right _ List.perm_append_comm
  | trans _ _ h1 h2 => exact h1.trans h2
theorem sumsN_perm {l l' : List Nat} (h : l.Perm l') : (sumsN l).Perm (sumsN l') := by
  induction h with
  | nil => exact List.Perm.refl _
  | cons x _ ih => exact flatMap_perm _ ih
  | swap x y l =>
    simp only [sumsN, List.flatMap_assoc]
    generalize sumsN l = S
    induction S with
    | nil => exact List.Perm.refl _
    | cons z S ih =>
      simp only [List.flatMap_cons, List.flatMap_nil, List.append_nil]
      refine List.Perm.append ?_ ih
      simp only [List.cons_append, List.nil_append]
      rw [show z + x + y = z + y + x by omega]
      exact List.Perm.cons _ (List.Perm.swap _ _ _)
  | trans _ _ h1 h2 => exact h1.trans h2

/-- A number that all of these divide, and d. -/
def lcms (d : Nat) : List Nat → Nat
  | [] => d
  | y :: S => lcms (Nat.lcm d y) S
theorem lcms_dvd : ∀ (S : List Nat) (d : Nat), d ∣ lcms d S ∧ ∀ y ∈ S, y ∣ lcms d S := by
  intro S
  induction S with
  | nil => intro d; exact ⟨Nat.dvd_refl _, fun _ h => by simp at h⟩
  | cons x S ih =>
    intro d
    have h := ih (Nat.lcm d x)
    refine ⟨Nat.dvd_trans (Nat.dvd_lcm_left d x) h.1, fun y hy => ?_⟩
    rcases List.mem_cons.1 hy with rfl | hy
    · exact Nat.dvd_trans (Nat.dvd_lcm_right d y) h.1
    · exact h.2 y hy
theorem lcms_pos : ∀ (S : List Nat) (d : Nat), 0 < d → (∀ y ∈ S, 0 < y) → 0 < lcms d S := by
  intro S
  induction S with
  | nil => intro d h _; exact h
  | cons x S ih => intro d h h2; exact ih _ (Nat.lcm_pos h (h2 x (by simp))) (fun y hy => h2 y (by simp [hy]))
def Dw : List Nat → Nat
  | [] => 1
  | x :: l => lcms (Dw l) ((sumsN l).map (· + x))
theorem Dw_dvd : ∀ l : List Nat, ∀ y ∈ sumsN l, y = 0 ∨ y ∣ Dw l := by
  intro l
  induction l with
  | nil => intro y hy; left; simpa [sumsN] using hy
  | cons x l ih =>
    intro y hy
    have h := lcms_dvd ((sumsN l).map (· + x)) (Dw l)
    simp only [sumsN, List.mem_flatMap, List.mem_cons, List.not_mem_nil, or_false] at hy
    obtain ⟨z, hz, rfl | rfl⟩ := hy
    · exact .inr (h.2 _ (List.mem_map.2 ⟨z, hz, rfl⟩))
    · rcases ih y hz with h0 | h1
      · exact .inl h0
      · exact .inr (Nat.dvd_trans h1 h.1)
theorem Dw_pos : ∀ l : List Nat, (∀ x ∈ l, 0 < x) → 0 < Dw l := by
  intro l
  induction l with
  | nil => intro _; exact Nat.one_pos
  | cons x l ih =>
    intro h
    refine lcms_pos _ _ (ih fun y hy => h y (by simp [hy])) (fun y hy => ?_)
    obtain ⟨z, _, rfl⟩ := List.mem_map.1 hy
    have := h x (by simp)
    omega

/-- The sorted lists (from the greatest weight down) whose sum of terms is too great: they are run through in each order. -/
def odd15 : List (List Nat) := [[9, 9, 9, 8, 6, 2], [9, 9, 9, 7, 4, 3], [9, 9, 8, 8, 6, 3], [9, 9, 7, 6, 6, 4], [9, 8, 8, 6, 6, 4], [9, 8, 7, 7, 6, 4], [8, 8, 8, 7, 6, 4], [9, 9, 8, 7, 6, 4], [9, 8, 8, 8, 6, 4], [9, 9, 8, 6, 6, 5], [9, 9, 7, 7, 6, 5], [9, 8, 8, 7, 6, 5], [9, 9, 8, 8, 7, 5], [9, 9, 9, 7, 7, 6], [9, 9, 8, 8, 7, 6]]
def chk : Nat → Nat → List Nat → List Nat → Nat → Nat → Bool
  | 0, lo, ws, S, D, s => (Nat.blt (csum D s S) 9223372036854775808 || odd15.contains ws) && Nat.blt D 1152921504606846976
  | f + 1, lo, ws, S, D, s => Nat.blt (csum D (s + 9 * (f + 1)) S) 9223372036854775808 && Nat.blt D 1152921504606846976 &&
      (List.range 10).all fun w => Nat.blt w lo || chk f w (w :: ws) (S.flatMap fun y => [y + w, y]) (lcms D (S.map (· + w))) (s + w)
set_option maxRecDepth 100000 in
theorem chk_all : chk 6 1 [] [0] 1 0 = true := by decide +kernel
end Go.Proofs.Ytigmhomfadimnaa.Pure
