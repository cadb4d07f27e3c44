/- Plain laws of packets: the average number of packets until a set is there, as a rational number; it grows with the set, and less and less. -/
import Derived.Test.YtigmhomfadimnaaQMBase
import Derived.Test.YtigmhomfadimnaaQMBound
import Derived.Test.YtigmhomfadimnaaQHMean
set_option linter.unusedVariables false
set_option linter.unusedSimpArgs false
namespace Go.Proofs.Ytigmhomfadimnaa.Pure
open Go.RowKit Go.Proofs.Ytigmhomfadimnaa.X Go.Proofs.YtigmhomfadimnaaW.PrintWords Go.Proofs.YtigmhomfadimnaaW.PrintLast Go.Proofs.YtigmhomfadimnaaW.PrintMore

/-! Plain laws of packets: the average number of packets until a set is there, as a rational number. -/
/-! ### Every list has a good denominator -/
theorem sum_perm {l l' : List Nat} (h : l.Perm l') : l.sum = l'.sum := by
  induction h with
  | nil => rfl
  | cons x _ ih => simp [ih]
  | swap x y _ => simp; omega
  | trans _ _ h1 h2 => exact h1.trans h2
/-- Sorted from the greatest down. -/
def desc : List Nat → Prop
  | [] => True
  | [x] => True
  | x :: y :: l => y ≤ x ∧ desc (y :: l)
def headD (l : List Nat) : Nat := match l with | [] => 1 | x :: _ => x
theorem chk_at : ∀ ws : List Nat, desc ws → (∀ x ∈ ws, 1 ≤ x ∧ x ≤ 9) → ws.length ≤ 6 → chk (6 - ws.length) (headD ws) ws (sumsN ws) (Dw ws) ws.sum = true := by
  intro ws
  induction ws with
  | nil => intro _ _ _; exact chk_all
  | cons x ws ih =>
    intro hd hx hl
    simp only [List.length_cons] at hl
    have h := ih (by cases ws with | nil => trivial | cons y l => exact hd.2) (fun y hy => hx y (by simp [hy])) (by omega)
    obtain ⟨f, hf⟩ : ∃ f, 6 - ws.length = f + 1 := ⟨5 - ws.length, by omega⟩
    rw [hf] at h
    unfold chk at h
    simp only [Bool.and_eq_true, List.all_eq_true, List.mem_range] at h
    have hx1 := hx x (by simp)
    have h2 := h.2 x (by omega)
    have h3 : Nat.blt x (headD ws) = false := by
      rw [← Bool.not_eq_true, Nat.blt_eq]
      cases ws with
      | nil => simp [headD]; omega
      | cons y l => have := hd.1; simp [headD]; omega
    rw [h3, Bool.false_or] at h2
    have e1 : 6 - (x :: ws).length = f := by simp only [List.length_cons]; omega
    rw [e1]
    show chk f x (x :: ws) _ _ _ = true
    rw [List.sum_cons, Nat.add_comm x]
    exact h2
theorem desc_ins (x : Nat) : ∀ l : List Nat, desc l → ∃ l', l'.Perm (x :: l) ∧ desc l' ∧ (∀ y l2, l' = y :: l2 → y = x ∨ ∃ l3, l = y :: l3) := by
  intro l
  induction l with
  | nil => intro _; exact ⟨[x], List.Perm.refl _, trivial, fun y l2 h => by cases h; exact .inl rfl⟩
  | cons z l ih =>
    intro hd
    by_cases h : z ≤ x
    · exact ⟨x :: z :: l, List.Perm.refl _, ⟨h, hd⟩, fun y l2 h => by cases h; exact .inl rfl⟩
    · obtain ⟨l', hp, hd', hh⟩ := ih (by cases l with | nil => trivial | cons y l => exact hd.2)
      refine ⟨z :: l', (List.Perm.cons z hp).trans (List.Perm.swap _ _ _), ?_, fun y l2 h => by cases h; exact .inr ⟨l, rfl⟩⟩
      cases l' with
      | nil => trivial
      | cons y l2 =>
        refine ⟨?_, hd'⟩
        rcases hh y l2 rfl with rfl | ⟨l3, rfl⟩
        · omega
        · exact hd.1
theorem desc_of : ∀ l : List Nat, ∃ l', l'.Perm l ∧ desc l' := by
  intro l
  induction l with
  | nil => exact ⟨[], List.Perm.refl _, trivial⟩
  | cons x l ih =>
    obtain ⟨l', hp, hd⟩ := ih
    obtain ⟨l2, hp2, hd2, _⟩ := desc_ins x l' hd
    exact ⟨l2, hp2.trans (List.Perm.cons x hp), hd2⟩
/-! ### The parts of a set, as the parts of a list -/
/-- The weights of a set. -/
def sub : List Int → Int → List Nat
  | [], _ => []
  | x :: l, s => if s % 2 = 1 then x.toNat :: sub l (s / 2) else sub l (s / 2)
def PR : Nat → Int → List Int
  | 0, _ => [0]
  | n + 1, s => (PR n (s / 2)).flatMap fun q => if s % 2 = 1 then [2 * q + 1, 2 * q] else [2 * q]
theorem PR_dec : ∀ s : Fin 64, partsL (s.val : Int) = PR 6 (s.val : Int) := by decide +kernel
theorem sg_dec : ∀ q : Fin 32, sg (2 * (q.val : Int)) = sg q.val ∧ sg (2 * (q.val : Int) + 1) = - sg q.val := by decide +kernel
theorem PR_mem : ∀ (n : Nat) (s : Int), 0 ≤ s → ∀ p ∈ PR n s, 0 ≤ p ∧ p ≤ s := by
  intro n
  induction n with
  | zero => intro s h p hp; simp only [PR, List.mem_singleton] at hp; omega
  | succ n ih =>
    intro s h p hp
    simp only [PR, List.mem_flatMap] at hp
    obtain ⟨q, hq, hp⟩ := hp
    have := ih (s / 2) (by omega) q hq
    split at hp <;> simp at hp <;> omega
theorem PR_zero : ∀ n : Nat, PR n 0 = [0] := by
  intro n
  induction n with
  | zero => rfl
  | succ n ih => simp [PR, ih]
/-- A part's sign and weights. -/
def sw (l : List Int) (p : Int) : Bool × Nat := (decide (sg p = 1), (wsum l p).toNat)
theorem wsum_nonneg : ∀ (l : List Int), (∀ x ∈ l, 1 ≤ x ∧ x ≤ 9) → ∀ p, 0 ≤ wsum l p := fun l h p => (wsum_bound l h p).1
theorem PR_dscS : ∀ (n : Nat) (l : List Int) (s : Int), n ≤ 6 → l.length ≤ n → (∀ x ∈ l, 1 ≤ x ∧ x ≤ 9) → 0 ≤ s → s < 2 ^ l.length → (PR n s).map (sw l) = dscS (sub l s) := by
  intro n
  induction n with
  | zero =>
    intro l s hn hl hx h0 h1
    obtain rfl : l = [] := List.eq_nil_of_length_eq_zero (by omega)
    have : s = 0 := by simp at h1; omega
    subst this
    decide
  | succ n ih =>
    intro l s hn hl hx h0 h1
    cases l with
    | nil =>
      have : s = 0 := by simp at h1; omega
      subst this
      rw [PR_zero]
      decide
    | cons x l =>
      simp only [List.length_cons] at hl
      rw [List.length_cons, Int.pow_succ] at h1
      have hpos := pow_le l.length (by omega)
      have h2 := ih l (s / 2) (by omega) (by omega) (fun y hy => hx y (by simp [hy])) (by omega) (by omega)
      have hx1 := hx x (by simp)
      have hlen5 : (2 : Int) ^ l.length ≤ 32 := by
        have : l.length = 0 ∨ l.length = 1 ∨ l.length = 2 ∨ l.length = 3 ∨ l.length = 4 ∨ l.length = 5 := by omega
        rcases this with h | h | h | h | h | h <;> rw [h] <;> decide
      have hev : ∀ q ∈ PR n (s / 2), sw (x :: l) (2 * q) = sw l q ∧ sw (x :: l) (2 * q + 1) = (!(sw l q).1, (sw l q).2 + x.toNat) := by
        intro q hq
        have hq2 := PR_mem n (s / 2) (by omega) q hq
        obtain ⟨m, rfl⟩ := Int.eq_ofNat_of_zero_le hq2.1
        have hs := sg_dec ⟨m, by omega⟩
        have hw := wsum_nonneg l (fun y hy => hx y (by simp [hy])) m
        refine ⟨?_, ?_⟩
        · unfold sw
          rw [hs.1, wsum]
          have e1 : (2 * (m : Int)) % 2 = 0 := by omega
          have e2 : (2 * (m : Int)) / 2 = m := by omega
          rw [e1, e2]
          simp
        · unfold sw
          rw [hs.2, wsum]
          have e1 : (2 * (m : Int) + 1) % 2 = 1 := by omega
          have e2 : (2 * (m : Int) + 1) / 2 = m := by omega
          rw [e1, e2]
          refine Prod.ext ?_ ?_
          · rcases sg_cases (m : Int) with h | h <;> simp [h]
          · show (1 * x + wsum l m).toNat = (wsum l m).toNat + x.toNat
            omega
      rw [PR, List.map_flatMap]
      by_cases hb : s % 2 = 1
      · rw [sub, if_pos hb, dscS, ← h2, List.flatMap_map]
        clear h2 ih
        generalize PR n (s / 2) = Q at hev ⊢
        induction Q with
        | nil => rfl
        | cons q L ihL =>
          rw [List.flatMap_cons, List.flatMap_cons, ihL (fun q hq => hev q (by simp [hq])), if_pos hb]
          simp only [List.map_cons, List.map_nil, (hev q (by simp)).1, (hev q (by simp)).2]
      · rw [sub, if_neg hb, ← h2]
        clear h2 ih
        generalize PR n (s / 2) = Q at hev ⊢
        induction Q with
        | nil => rfl
        | cons q L ihL =>
          rw [List.flatMap_cons, List.map_cons, ihL (fun q hq => hev q (by simp [hq])), if_neg hb]
          simp only [List.map_cons, List.map_nil, (hev q (by simp)).1]
          rfl

/-! ### The run, over one denominator -/
def rs (A : Nat) : List (Bool × Nat) → Rat
  | [] => 0
  | (b, y) :: t => (if b then -((A : Rat) / (y : Rat)) else (A : Rat) / (y : Rat)) + rs A t
theorem divInt_sum (a b d : Int) : Rat.divInt a d + Rat.divInt b d = Rat.divInt (a + b) d := by
  rw [Rat.divInt_eq_div, Rat.divInt_eq_div, Rat.divInt_eq_div, Rat.intCast_add]
  grind
theorem wsum_pos : ∀ (l : List Int), (∀ x ∈ l, 1 ≤ x ∧ x ≤ 9) → ∀ p, 0 < p → p < 2 ^ l.length → 0 < wsum l p := by
  intro l
  induction l with
  | nil => intro _ p h0 h1; simp at h1; omega
  | cons x l ih =>
    intro h p h0 h1
    rw [List.length_cons, Int.pow_succ] at h1
    have hx := h x (by simp)
    have hn := wsum_nonneg l (fun y hy => h y (by simp [hy])) (p / 2)
    rw [wsum]
    by_cases hp : 0 < p / 2
    · have := ih (fun y hy => h y (by simp [hy])) (p / 2) hp (by omega)
      have hc : p % 2 = 0 ∨ p % 2 = 1 := by omega
      rcases hc with a | a <;> rw [a] <;> omega
    · have e : p % 2 = 1 := by omega
      rw [e]
      omega
theorem term_eq (A y D : Nat) (hy : 0 < y) (hd : y ∣ D) (hD : 0 < D) (sgn : Int) : Rat.divInt (sgn * A) y = Rat.divInt (sgn * (A * (D / y) : Nat)) D := by
  obtain ⟨c, rfl⟩ := hd
  have hc : 0 < c := Nat.pos_of_ne_zero (by rintro rfl; omega)
  rw [Nat.mul_div_cancel_left c hy]
  rw [← divInt_cancel (sgn * A) y c (by omega) (by omega)]
  congr 1
  push_cast
  grind
theorem sub_range : ∀ (l : List Int) (s : Int), (∀ x ∈ l, 1 ≤ x ∧ x ≤ 9) → (∀ x ∈ sub l s, 1 ≤ x ∧ x ≤ 9) ∧ (sub l s).length ≤ l.length ∧ ((sub l s).sum : Int) ≤ l.sum ∧ l.sum ≤ (sub l s).sum + 9 * (l.length - (sub l s).length) := by
  intro l
  induction l with
  | nil => intro s _; simp [sub]
  | cons x l ih =>
    intro s h
    have hx := h x (by simp)
    have h2 := ih (s / 2) (fun y hy => h y (by simp [hy]))
    rw [sub]
    split
    · simp only [List.mem_cons, forall_eq_or_imp, List.length_cons, List.sum_cons]
      push_cast
      refine ⟨⟨by omega, h2.1⟩, by omega, by omega, by omega⟩
    · simp only [List.length_cons, List.sum_cons]
      push_cast
      refine ⟨h2.1, by omega, by omega, by omega⟩
/-! Plain laws of packets: the average number grows with the set, and less and less. -/
/-- The alternating sum over the parts of m, each with c more. -/
def ee (c : Rat) : List Nat → Rat
  | [] => 1 / c
  | x :: m => ee c m - ee (c + (x : Rat)) m
def mm : List Nat → Rat
  | [] => 0
  | x :: m => mm m + ee (x : Rat) m
def rsumN : List Nat → Rat
  | [] => 0
  | x :: m => (x : Rat) + rsumN m
/-- The sum of y times what is left without y, over the y of post. -/
def rr (c : Rat) : List Nat → List Nat → Rat
  | pre, [] => 0
  | pre, y :: post => (y : Rat) * ee c (pre ++ post) + rr c (pre ++ [y]) post
theorem rr_cons (c : Rat) (x : Nat) : ∀ (post pre : List Nat), rr c (x :: pre) post = rr c pre post - rr (c + (x : Rat)) pre post := by
  intro post
  induction post with
  | nil => intro pre; simp only [rr]; grind
  | cons y post ih =>
    intro pre
    have h := ih (pre ++ [y])
    simp only [rr, List.cons_append, ee]
    rw [h]
    grind
theorem ee_id : ∀ (m : List Nat) (c : Rat), 0 < c → (c + rsumN m) * ee c m = (if m = [] then 1 else 0) + rr c [] m := by
  intro m
  induction m with
  | nil =>
    intro c hc
    simp only [rsumN, ee, rr, if_true]
    have : c ≠ 0 := by intro h; rw [h] at hc; exact absurd hc (by decide)
    grind
  | cons x m ih =>
    intro c hc
    have hx : (0 : Rat) ≤ (x : Rat) := by exact_mod_cast Nat.zero_le x
    have h1 := ih c hc
    have h2 := ih (c + (x : Rat)) (by grind)
    rw [rr, List.nil_append, List.nil_append, rr_cons, ee, rsumN]
    simp only [List.cons_ne_nil, if_false]
    grind
theorem ee_nonneg : ∀ (n : Nat) (m : List Nat), m.length ≤ n → ∀ c : Rat, 0 < c → 0 ≤ ee c m := by
  intro n
  induction n with
  | zero =>
    intro m hm c hc
    obtain rfl : m = [] := List.eq_nil_of_length_eq_zero (by omega)
    rw [ee]
    exact Rat.le_of_lt (by rw [Rat.div_def, Rat.one_mul]; exact Rat.inv_pos.2 hc)
  | succ n ih =>
    intro m hm c hc
    have hrr : ∀ (post pre : List Nat), pre.length + post.length ≤ n + 1 → 0 ≤ rr c pre post := by
      intro post
      induction post with
      | nil => intro pre _; exact Rat.le_refl
      | cons y post ihp =>
        intro pre hl
        simp only [List.length_cons] at hl
        have h1 := ih (pre ++ post) (by rw [List.length_append]; omega) c hc
        have h2 := ihp (pre ++ [y]) (by rw [List.length_append, List.length_singleton]; omega)
        have hy : (0 : Rat) ≤ (y : Rat) := by exact_mod_cast Nat.zero_le y
        rw [rr]
        exact Rat.add_nonneg (Rat.mul_nonneg hy h1) h2
    have h := ee_id m c hc
    have h3 := hrr m [] (by simpa using hm)
    have hs : 0 ≤ rsumN m := by
      clear h h3 hm
      induction m with
      | nil => exact Rat.le_refl
      | cons y m ihm => exact Rat.add_nonneg (by exact_mod_cast Nat.zero_le y) ihm
    have hpos : 0 < c + rsumN m := by grind
    have hr : 0 ≤ (c + rsumN m) * ee c m := by
      rw [h]
      refine Rat.add_nonneg ?_ h3
      split <;> decide
    rcases (Rat.le_total : (0 : Rat) ≤ ee c m ∨ ee c m ≤ 0) with h4 | h4
    · exact h4
    · have h5 : (c + rsumN m) * ee c m = 0 := by
        refine Rat.le_antisymm ?_ hr
        have := Rat.mul_le_mul_of_nonneg_left h4 (Rat.le_of_lt hpos)
        rwa [Rat.mul_zero] at this
      rcases Rat.mul_eq_zero.1 h5 with h6 | h6
      · rw [h6] at hpos; exact absurd hpos (by decide)
      · rw [h6]; exact Rat.le_refl
theorem ee_perm {m m' : List Nat} (h : m.Perm m') : ∀ c : Rat, ee c m = ee c m' := by
  induction h with
  | nil => intro c; rfl
  | cons x _ ih => intro c; rw [ee, ee, ih, ih]
  | swap x y l => intro c; simp only [ee]; grind
  | trans _ _ h1 h2 => intro c; rw [h1, h2]
theorem mm_ee : ∀ m : List Nat, mm m = - ee 0 m := by
  intro m
  induction m with
  | nil => simp only [mm, ee]; grind
  | cons x m ih => rw [mm, ee, ih]; grind
theorem ee_more (c : Rat) (hc : 0 < c) (m : List Nat) : ∀ E : List Nat, ee c (E ++ m) ≤ ee c m := by
  intro E
  induction E with
  | nil => exact Rat.le_refl
  | cons x E ih =>
    have hx : (0 : Rat) ≤ (x : Rat) := by exact_mod_cast Nat.zero_le x
    have h := ee_nonneg _ (E ++ m) (Nat.le_refl _) (c + (x : Rat)) (by grind)
    rw [List.cons_append, ee]
    grind
/-- The same sum as a run over the parts. -/
def gg (c : Rat) : List (Bool × Nat) → Rat
  | [] => 0
  | (b, y) :: t => (if b then 1 / (c + (y : Rat)) else -(1 / (c + (y : Rat)))) + gg c t
theorem gg_flat (c : Rat) (x : Nat) : ∀ L : List (Bool × Nat), gg c (L.flatMap fun b => [(!b.1, b.2 + x), (b.1, b.2)]) = gg c L - gg (c + (x : Rat)) L := by
  intro L
  induction L with
  | nil => simp only [List.flatMap_nil, gg]; grind
  | cons a L ih =>
    obtain ⟨b, y⟩ := a
    rw [List.flatMap_cons]
    simp only [List.cons_append, List.nil_append, gg]
    rw [ih]
    have e : c + ((y + x : Nat) : Rat) = c + (x : Rat) + (y : Rat) := by push_cast; grind
    rw [e]
    cases b <;> simp <;> grind
theorem gg_ee : ∀ (m : List Nat) (c : Rat), gg c (dscS m) = ee c m := by
  intro m
  induction m with
  | nil =>
    intro c
    simp only [dscS, gg, ee, if_true]
    have : ((0 : Nat) : Rat) = 0 := rfl
    rw [this, Rat.add_zero, Rat.add_zero]
  | cons x m ih => intro c; rw [dscS, gg_flat, ih, ih, ee]
theorem rs_gg (A : Nat) : ∀ L : List (Bool × Nat), rs A L = -((A : Rat) * gg 0 L) := by
  intro L
  induction L with
  | nil => simp only [rs, gg]; grind
  | cons a L ih =>
    obtain ⟨b, y⟩ := a
    rw [rs, gg, ih]
    have e : (0 : Rat) + (y : Rat) = (y : Rat) := Rat.zero_add _
    rw [e]
    cases b <;> simp <;> grind
theorem rs_mm (A : Nat) (m : List Nat) : rs A (dscS m) = (A : Rat) * mm m := by
  rw [rs_gg, gg_ee, mm_ee]
  grind

end Go.Proofs.Ytigmhomfadimnaa.Pure
