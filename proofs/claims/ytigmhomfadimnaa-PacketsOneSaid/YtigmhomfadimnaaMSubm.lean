/- Plain laws of packets: the average number grows with the set, and less and less. -/
import Derived.Test.YtigmhomfadimnaaMMean
set_option linter.unusedVariables false
set_option linter.unusedSimpArgs false
namespace Go.Proofs.Ytigmhomfadimnaa.Pure

/-- The alternating sum over the parts of m, each with c more. -/
def ee (c : Rat) : List Nat → Rat
  | [] => 1 / c
  | x :: m => ee c m - ee (c + (x : Rat)) m
def mm : List Nat → Rat
  | [] => 0
  | x :: m => mm m + ee (x : Rat) m
def rsumN : List Nat → Rat
  | [] => 0
  | x :: m => (x : Rat) + rsumN m
/-- The sum of y times what is left without y, over the y of post. -/
def rr (c : Rat) : List Nat → List Nat → Rat
  | pre, [] => 0
  | pre, y :: post => (y : Rat) * ee c (pre ++ post) + rr c (pre ++ [y]) post
theorem rr_cons (c : Rat) (x : Nat) : ∀ (post pre : List Nat), rr c (x :: pre) post = rr c pre post - rr (c + (x : Rat)) pre post := by
  intro post
  induction post with
  | nil => intro pre; simp only [rr]; grind
  | cons y post ih =>
    intro pre
    have h := ih (pre ++ [y])
    simp only [rr, List.cons_append, ee]
    rw [h]
    grind
def dl : List Nat → Rat
  | [] => 1
  | _ => 0
theorem ee_id : ∀ (m : List Nat) (c : Rat), 0 < c → (c + rsumN m) * ee c m = (if m = [] then 1 else 0) + rr c [] m := by
  intro m
  induction m with
  | nil =>
    intro c hc
    simp only [rsumN, ee, rr, if_true]
    have : c ≠ 0 := by intro h; rw [h] at hc; exact absurd hc (by decide)
    grind
  | cons x m ih =>
    intro c hc
    have hx : (0 : Rat) ≤ (x : Rat) := by exact_mod_cast Nat.zero_le x
    have h1 := ih c hc
    have h2 := ih (c + (x : Rat)) (by grind)
    rw [rr, List.nil_append, List.nil_append, rr_cons, ee, rsumN]
    simp only [List.cons_ne_nil, if_false]
    grind
theorem ee_nonneg : ∀ (n : Nat) (m : List Nat), m.length ≤ n → ∀ c : Rat, 0 < c → 0 ≤ ee c m := by
  intro n
  induction n with
  | zero =>
    intro m hm c hc
    obtain rfl : m = [] := List.eq_nil_of_length_eq_zero (by omega)
    rw [ee]
    exact Rat.le_of_lt (by rw [Rat.div_def, Rat.one_mul]; exact Rat.inv_pos.2 hc)
  | succ n ih =>
    intro m hm c hc
    have hrr : ∀ (post pre : List Nat), pre.length + post.length ≤ n + 1 → 0 ≤ rr c pre post := by
      intro post
      induction post with
      | nil => intro pre _; exact Rat.le_refl
      | cons y post ihp =>
        intro pre hl
        simp only [List.length_cons] at hl
        have h1 := ih (pre ++ post) (by rw [List.length_append]; omega) c hc
        have h2 := ihp (pre ++ [y]) (by rw [List.length_append, List.length_singleton]; omega)
        have hy : (0 : Rat) ≤ (y : Rat) := by exact_mod_cast Nat.zero_le y
        rw [rr]
        exact Rat.add_nonneg (Rat.mul_nonneg hy h1) h2
    have h := ee_id m c hc
    have h3 := hrr m [] (by simpa using hm)
    have hs : 0 ≤ rsumN m := by
      clear h h3 hm
      induction m with
      | nil => exact Rat.le_refl
      | cons y m ihm => exact Rat.add_nonneg (by exact_mod_cast Nat.zero_le y) ihm
    have hpos : 0 < c + rsumN m := by grind
    have hr : 0 ≤ (c + rsumN m) * ee c m := by
      rw [h]
      refine Rat.add_nonneg ?_ h3
      split <;> decide
    rcases (Rat.le_total : (0 : Rat) ≤ ee c m ∨ ee c m ≤ 0) with h4 | h4
    · exact h4
    · have h5 : (c + rsumN m) * ee c m = 0 := by
        refine Rat.le_antisymm ?_ hr
        have := Rat.mul_le_mul_of_nonneg_left h4 (Rat.le_of_lt hpos)
        rwa [Rat.mul_zero] at this
      rcases Rat.mul_eq_zero.1 h5 with h6 | h6
      · rw [h6] at hpos; exact absurd hpos (by decide)
      · rw [h6]; exact Rat.le_refl
theorem ee_perm {m m' : List Nat} (h : m.Perm m') : ∀ c : Rat, ee c m = ee c m' := by
  induction h with
  | nil => intro c; rfl
  | cons x _ ih => intro c; rw [ee, ee, ih, ih]
  | swap x y l => intro c; simp only [ee]; grind
  | trans _ _ h1 h2 => intro c; rw [h1, h2]
theorem mm_ee : ∀ m : List Nat, mm m = - ee 0 m := by
  intro m
  induction m with
  | nil => simp only [mm, ee]; grind
  | cons x m ih => rw [mm, ee, ih]; grind
theorem mm_perm {m m' : List Nat} (h : m.Perm m') : mm m = mm m' := by rw [mm_ee, mm_ee, ee_perm h]
theorem ee_more (c : Rat) (hc : 0 < c) (m : List Nat) : ∀ E : List Nat, ee c (E ++ m) ≤ ee c m := by
  intro E
  induction E with
  | nil => exact Rat.le_refl
  | cons x E ih =>
    have hx : (0 : Rat) ≤ (x : Rat) := by exact_mod_cast Nat.zero_le x
    have h := ee_nonneg _ (E ++ m) (Nat.le_refl _) (c + (x : Rat)) (by grind)
    rw [List.cons_append, ee]
    grind
theorem mm_more (m : List Nat) : ∀ E : List Nat, (∀ x ∈ E, 1 ≤ x) → mm m ≤ mm (E ++ m) := by
  intro E
  induction E with
  | nil => intro _; exact Rat.le_refl
  | cons x E ih =>
    intro hE
    have hx : (0 : Rat) < (x : Rat) := by have := hE x (by simp); exact_mod_cast (show 0 < x by omega)
    have h := ee_nonneg _ (E ++ m) (Nat.le_refl _) (x : Rat) hx
    have := ih (fun y hy => hE y (by simp [hy]))
    rw [List.cons_append, mm]
    grind
theorem mm_sub (B C : List Nat) : ∀ E : List Nat, (∀ x ∈ E, 1 ≤ x) → mm (E ++ (B ++ C)) - mm (B ++ C) ≤ mm (E ++ C) - mm C := by
  intro E
  induction E with
  | nil => intro _; simp only [List.nil_append]; grind
  | cons x E ih =>
    intro hE
    have hx : (0 : Rat) < (x : Rat) := by have := hE x (by simp); exact_mod_cast (show 0 < x by omega)
    have h1 := ih (fun y hy => hE y (by simp [hy]))
    have h2 : ee (x : Rat) (E ++ (B ++ C)) ≤ ee (x : Rat) (E ++ C) := by
      rw [ee_perm (m' := B ++ (E ++ C)) (by rw [← List.append_assoc, ← List.append_assoc]; exact List.perm_append_comm.append_right C)]
      exact ee_more _ hx _ B
    rw [List.cons_append, mm, List.cons_append, mm]
    grind
theorem mm_nonneg (m : List Nat) (h : ∀ x ∈ m, 1 ≤ x) : 0 ≤ mm m := by
  have := mm_more [] m h
  simpa [mm] using this
theorem mm_le : ∀ m : List Nat, (∀ x ∈ m, 1 ≤ x) → mm m ≤ (m.length : Rat) := by
  intro m
  induction m with
  | nil => intro _; exact Rat.le_refl
  | cons x m ih =>
    intro h
    have hx : (1 : Rat) ≤ (x : Rat) := by have := h x (by simp); exact_mod_cast this
    have h1 := ih (fun y hy => h y (by simp [hy]))
    have h2 := ee_more (x : Rat) (by grind) [] m
    rw [List.append_nil, ee] at h2
    have h3 : 1 / (x : Rat) ≤ 1 := by
      have hi : (0 : Rat) ≤ (x : Rat)⁻¹ := Rat.le_of_lt (Rat.inv_pos.2 (by grind))
      have h4 := Rat.mul_le_mul_of_nonneg_left hx hi
      rw [Rat.inv_mul_cancel _ (by grind), Rat.mul_one] at h4
      rw [Rat.div_def, Rat.one_mul]
      exact h4
    rw [mm, List.length_cons]
    push_cast
    grind
/-- The same sum as a run over the parts. -/
def gg (c : Rat) : List (Bool × Nat) → Rat
  | [] => 0
  | (b, y) :: t => (if b then 1 / (c + (y : Rat)) else -(1 / (c + (y : Rat)))) + gg c t
theorem gg_flat (c : Rat) (x : Nat) : ∀ L : List (Bool × Nat), gg c (L.flatMap fun b => [(!b.1, b.2 + x), (b.1, b.2)]) = gg c L - gg (c + (x : Rat)) L := by
  intro L
  induction L with
  | nil => simp only [List.flatMap_nil, gg]; grind
  | cons a L ih =>
    obtain ⟨b, y⟩ := a
    rw [List.flatMap_cons]
    simp only [List.cons_append, List.nil_append, gg]
    rw [ih]
    have e : c + ((y + x : Nat) : Rat) = c + (x : Rat) + (y : Rat) := by push_cast; grind
    rw [e]
    cases b <;> simp <;> grind
theorem gg_ee : ∀ (m : List Nat) (c : Rat), gg c (dscS m) = ee c m := by
  intro m
  induction m with
  | nil =>
    intro c
    simp only [dscS, gg, ee, if_true]
    have : ((0 : Nat) : Rat) = 0 := rfl
    rw [this, Rat.add_zero, Rat.add_zero]
  | cons x m ih => intro c; rw [dscS, gg_flat, ih, ih, ee]
theorem rs_gg (A : Nat) : ∀ L : List (Bool × Nat), rs A L = -((A : Rat) * gg 0 L) := by
  intro L
  induction L with
  | nil => simp only [rs, gg]; grind
  | cons a L ih =>
    obtain ⟨b, y⟩ := a
    rw [rs, gg, ih]
    have e : (0 : Rat) + (y : Rat) = (y : Rat) := Rat.zero_add _
    rw [e]
    cases b <;> simp <;> grind
theorem rs_mm (A : Nat) (m : List Nat) : rs A (dscS m) = (A : Rat) * mm m := by
  rw [rs_gg, gg_ee, mm_ee]
  grind

end Go.Proofs.Ytigmhomfadimnaa.Pure
