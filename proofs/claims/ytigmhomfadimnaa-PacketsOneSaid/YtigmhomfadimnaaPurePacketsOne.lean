/- PacketsOne: the average of one kind, and of two sets together: it grows with the set, and less and less. -/
import Derived.Test.YtigmhomfadimnaaXcomfitlaw04PacketsOne
import Derived.Test.YtigmhomfadimnaaMSubm
import Derived.Test.YtigmhomfadimnaaMLess
set_option linter.unusedVariables false
set_option linter.unusedSimpArgs false
namespace Go.Proofs.Ytigmhomfadimnaa.Pure
open Go.RowKit Go.Proofs.Ytigmhomfadimnaa.X Go.Proofs.YtigmhomfadimnaaW.PrintWords Go.Proofs.YtigmhomfadimnaaW.PrintLast Go.Proofs.YtigmhomfadimnaaW.PrintMore

/-! ### Averages over one denominator -/
theorem sgn_term (A y D : Nat) (hy : y = 0 ∨ y ∣ D) (hD : 0 < D) : (A : Rat) / (y : Rat) = Rat.divInt ((A * (D / y) : Nat) : Int) D := by
  rcases hy with rfl | hy
  · rw [Nat.div_zero, Nat.mul_zero]
    rw [show ((0 : Nat) : Int) = 0 from rfl, Rat.zero_divInt]
    show (A : Rat) / ((0 : Nat) : Rat) = 0
    have : ((0 : Nat) : Rat) = 0 := rfl
    rw [this]
    grind
  · have hy0 : 0 < y := Nat.pos_of_dvd_of_pos hy hD
    have h := term_eq A y D hy0 hy hD 1
    rw [Int.one_mul, Int.one_mul] at h
    rw [← h, Rat.divInt_eq_div]
    rfl
theorem okrun_end (D A : Nat) (hD : 0 < D) : ∀ (L : List (Bool × Nat)) (M : Nat) (N : Int), (M : Int) = N + 9223372036854775808 → 0 < M → M < 18446744073709551616 → okrun D A M L = true → (∀ c ∈ L, c.2 = 0 ∨ c.2 ∣ D) →
    ∃ N' : Int, -9223372036854775808 < N' ∧ N' < 9223372036854775808 ∧ Rat.divInt N D + rs A L = Rat.divInt N' D := by
  intro L
  induction L with
  | nil => intro M N hM h0 h1 _ _; exact ⟨N, by omega, by omega, by rw [rs, Rat.add_zero]⟩
  | cons c L ih =>
    obtain ⟨b, y⟩ := c
    intro M N hM h0 h1 hr hd
    have hy := sgn_term A y D (hd (b, y) (by simp)) hD
    unfold okrun at hr
    cases b with
    | true =>
      simp only [cond_true] at hr
      cases hb : Nat.blt (A * (D / y)) M with
      | false => rw [hb] at hr; cases hr
      | true =>
        rw [hb] at hr
        rw [Nat.blt_eq] at hb
        obtain ⟨N', q0, q1, q2⟩ := ih (M - A * (D / y)) (N - ((A * (D / y) : Nat) : Int)) (by omega) (by omega) (by omega) hr (fun c hc => hd c (by simp [hc]))
        refine ⟨N', q0, q1, ?_⟩
        rw [← q2, rs, if_pos rfl, hy, ← Rat.add_assoc]
        congr 1
        rw [show N - ((A * (D / y) : Nat) : Int) = N + -((A * (D / y) : Nat) : Int) by omega, ← divInt_sum, Rat.divInt_eq_div (-_), Rat.divInt_eq_div ((A * (D / y) : Nat) : Int), Rat.intCast_neg]
        grind
    | false =>
      simp only [cond_false] at hr
      cases hb : Nat.blt (M + A * (D / y)) 18446744073709551616 with
      | false => rw [hb] at hr; cases hr
      | true =>
        rw [hb] at hr
        rw [Nat.blt_eq] at hb
        obtain ⟨N', q0, q1, q2⟩ := ih (M + A * (D / y)) (N + ((A * (D / y) : Nat) : Int)) (by omega) (by omega) (by omega) hr (fun c hc => hd c (by simp [hc]))
        refine ⟨N', q0, q1, ?_⟩
        rw [← q2, rs, if_neg (by simp), hy, ← Rat.add_assoc, divInt_sum]
theorem rs_over (D A : Nat) (hD : 0 < D) : ∀ L : List (Bool × Nat), (∀ c ∈ L, c.2 = 0 ∨ c.2 ∣ D) → ∃ N : Int, rs A L = Rat.divInt N D := by
  intro L
  induction L with
  | nil => intro _; exact ⟨0, by rw [rs, Rat.zero_divInt]⟩
  | cons c L ih =>
    obtain ⟨b, y⟩ := c
    intro hd
    obtain ⟨N, hN⟩ := ih (fun c hc => hd c (by simp [hc]))
    have hy := sgn_term A y D (hd (b, y) (by simp)) hD
    cases b with
    | true =>
      refine ⟨-((A * (D / y) : Nat) : Int) + N, ?_⟩
      rw [rs, if_pos rfl, hN, hy, ← divInt_sum]
      congr 1
      rw [Rat.divInt_eq_div, Rat.divInt_eq_div, Rat.intCast_neg]
      grind
    | false =>
      refine ⟨((A * (D / y) : Nat) : Int) + N, ?_⟩
      rw [rs, if_neg (by simp), hN, hy, divInt_sum]
theorem divInt_le {a b d : Int} (hd : 0 < d) (h : Rat.divInt a d ≤ Rat.divInt b d) : a ≤ b := by
  rw [Rat.divInt_eq_div, Rat.divInt_eq_div] at h
  have hd' : (0 : Rat) < (d : Rat) := by exact_mod_cast hd
  have h2 := Rat.mul_le_mul_of_nonneg_left h (Rat.le_of_lt hd')
  have e : ∀ x : Rat, (d : Rat) * (x / (d : Rat)) = x := by intro x; grind
  rw [e, e] at h2
  exact_mod_cast h2
theorem sums_more (y : Nat) (m : List Nat) (h : y ∈ sumsN m) : ∀ E : List Nat, y ∈ sumsN (E ++ m) := by
  intro E
  induction E with
  | nil => exact h
  | cons x E ih =>
    rw [List.cons_append, sumsN, List.mem_flatMap]
    exact ⟨y, ih, by simp⟩

/-! ### Two sets together -/
def orI : Nat → Int → Int → Int
  | 0, _, _ => 0
  | n + 1, a, b => (if a % 2 = 1 ∨ b % 2 = 1 then 1 else 0) + 2 * orI n (a / 2) (b / 2)
theorem or_dec : ∀ a : Fin 64, ∀ b : Fin 64, Go.bits .or .i64 (a.val : Int) (b.val : Int) = orI 6 a.val b.val := by decide +kernel
theorem orI_range : ∀ (n : Nat) (a b : Int), 0 ≤ a → 0 ≤ b → a < 2 ^ n → b < 2 ^ n → 0 ≤ orI n a b ∧ orI n a b < 2 ^ n := by
  intro n
  induction n with
  | zero => intro a b _ _ _ _; simp [orI]
  | succ n ih =>
    intro a b h0 h1 h2 h3
    rw [Int.pow_succ] at h2 h3 ⊢
    have := ih (a / 2) (b / 2) (by omega) (by omega) (by omega) (by omega)
    rw [orI]
    split <;> omega
theorem orI_more : ∀ (m n : Nat) (a b : Int), m ≤ n → 0 ≤ a → 0 ≤ b → a < 2 ^ m → b < 2 ^ m → orI n a b = orI m a b := by
  intro m
  induction m with
  | zero =>
    intro n
    induction n with
    | zero => intros; rfl
    | succ n ihn =>
      intro a b _ h0 h1 h2 h3
      have e1 : a = 0 := by simp at h2; omega
      have e2 : b = 0 := by simp at h3; omega
      subst e1 e2
      have := ihn 0 0 (by omega) (by omega) (by omega) (by simp) (by simp)
      have hz : orI (n + 1) 0 0 = (if (0 : Int) % 2 = 1 ∨ (0 : Int) % 2 = 1 then 1 else 0) + 2 * orI n (0 / 2) (0 / 2) := rfl
      rw [hz, if_neg (by omega), Int.zero_ediv, this]
      rfl
  | succ m ih =>
    intro n a b hmn h0 h1 h2 h3
    obtain ⟨n, rfl⟩ : ∃ k, n = k + 1 := ⟨n - 1, by omega⟩
    rw [Int.pow_succ] at h2 h3
    rw [orI, orI, ih n (a / 2) (b / 2) (by omega) (by omega) (by omega) (by omega) (by omega)]
theorem sub_or : ∀ (l : List Int) (a b : Int), 0 ≤ a → 0 ≤ b → a < 2 ^ l.length → b < 2 ^ l.length → ∃ E B C : List Nat, (sub l a).Perm (E ++ C) ∧ (sub l b).Perm (B ++ C) ∧ (sub l (orI l.length a b)).Perm (E ++ (B ++ C)) := by
  intro l
  induction l with
  | nil => intro a b _ _ _ _; exact ⟨[], [], [], List.Perm.refl _, List.Perm.refl _, List.Perm.refl _⟩
  | cons x l ih =>
    intro a b h0 h1 h2 h3
    rw [List.length_cons, Int.pow_succ] at h2 h3
    obtain ⟨E, B, C, p1, p2, p3⟩ := ih (a / 2) (b / 2) (by omega) (by omega) (by omega) (by omega)
    rw [List.length_cons, orI]
    have hor := orI_range l.length (a / 2) (b / 2) (by omega) (by omega) (by omega) (by omega)
    generalize orI l.length (a / 2) (b / 2) = o at *
    simp only [sub]
    by_cases ha : a % 2 = 1 <;> by_cases hb : b % 2 = 1
    · refine ⟨E, B, x.toNat :: C, ?_, ?_, ?_⟩
      · rw [if_pos ha]; exact (List.Perm.cons _ p1).trans List.perm_middle.symm
      · rw [if_pos hb]; exact (List.Perm.cons _ p2).trans List.perm_middle.symm
      · rw [show (if a % 2 = 1 ∨ b % 2 = 1 then (1 : Int) else 0) = 1 from if_pos (Or.inl ha), if_pos (by omega), show (1 + 2 * o) / 2 = o by omega]
        refine (List.Perm.cons _ p3).trans ?_
        rw [← List.append_assoc, ← List.append_assoc]
        exact List.perm_middle.symm
    · refine ⟨x.toNat :: E, B, C, ?_, ?_, ?_⟩
      · rw [if_pos ha]; exact List.Perm.cons _ p1
      · rw [if_neg hb]; exact p2
      · rw [show (if a % 2 = 1 ∨ b % 2 = 1 then (1 : Int) else 0) = 1 from if_pos (Or.inl ha), if_pos (by omega), show (1 + 2 * o) / 2 = o by omega]; exact List.Perm.cons _ p3
    · refine ⟨E, x.toNat :: B, C, ?_, ?_, ?_⟩
      · rw [if_neg ha]; exact p1
      · rw [if_pos hb]; exact List.Perm.cons _ p2
      · rw [show (if a % 2 = 1 ∨ b % 2 = 1 then (1 : Int) else 0) = 1 from if_pos (Or.inr hb), if_pos (by omega), show (1 + 2 * o) / 2 = o by omega]
        exact (List.Perm.cons _ p3).trans List.perm_middle.symm
    · refine ⟨E, B, C, ?_, ?_, ?_⟩
      · rw [if_neg ha]; exact p1
      · rw [if_neg hb]; exact p2
      · rw [show (if a % 2 = 1 ∨ b % 2 = 1 then (1 : Int) else 0) = 0 from if_neg (by omega), if_neg (by omega), show (0 + 2 * o) / 2 = o by omega]; exact p3

theorem one_facts (l : List Int) (a b : Int) (ha : okS l a = true) (hb : okS l b = true) : okS l (Go.bits .or .i64 a b) = true ∧ ∃ D Na Nb Nu : Int, 0 < D ∧ D < 1152921504606846976 ∧
    meanR l a = Rat.divInt Na D ∧ meanR l b = Rat.divInt Nb D ∧ meanR l (Go.bits .or .i64 a b) = Rat.divInt Nu D ∧ 0 ≤ Na ∧ 0 ≤ Nb ∧ Na ≤ Nu ∧ Nb ≤ Nu ∧ Nu - Na ≤ Nb ∧ Nu < 9223372036854775808 ∧ Nu ≤ 400 * D := by
  obtain ⟨h, a0, a1⟩ := (okS_iff l a).1 ha
  obtain ⟨_, b0, b1⟩ := (okS_iff l b).1 hb
  have hk := (okW_iff l).1 h
  have hl := pow_le l.length hk.2.1
  have ht := tot_bound l h
  have hlen : (l.length : Int) ≤ 6 := by have := hk.2.1; omega
  have hts := wsum_all l
  have hu : Go.bits .or .i64 a b = orI l.length a b := by
    obtain ⟨m, rfl⟩ := Int.eq_ofNat_of_zero_le a0
    obtain ⟨n, rfl⟩ := Int.eq_ofNat_of_zero_le b0
    rw [← orI_more l.length 6 m n hk.2.1 a0 b0 a1 b1]
    exact or_dec ⟨m, by omega⟩ ⟨n, by omega⟩
  rw [hu]
  have hur := orI_range l.length a b a0 b0 a1 b1
  refine ⟨(okS_iff _ _).2 ⟨h, hur⟩, ?_⟩
  obtain ⟨E, B, C, p1, p2, p3⟩ := sub_or l a b a0 b0 a1 b1
  have ra := sub_range l a hk.2.2
  have rb := sub_range l b hk.2.2
  have ru := sub_range l (orI l.length a b) hk.2.2
  obtain ⟨D, hD, hD2, hdv, hok⟩ := good (sub l (orI l.length a b)) ru.1 (by omega) (tot l).toNat (by omega) (by omega)
  have hsn : ∀ (m : List Nat), (∀ y ∈ sumsN m, y ∈ sumsN (sub l (orI l.length a b))) → ∀ c ∈ dscS m, c.2 = 0 ∨ c.2 ∣ D := by
    intro m hm c hc
    refine hdv _ (hm _ ?_)
    rw [← dscS_snd]
    exact List.mem_map.2 ⟨c, hc, rfl⟩
  have p3' : (sub l (orI l.length a b)).Perm (B ++ (E ++ C)) := p3.trans (by rw [← List.append_assoc, ← List.append_assoc]; exact List.perm_append_comm.append_right C)
  obtain ⟨Na, hNa⟩ := rs_over D (tot l).toNat hD (dscS (sub l a)) (hsn _ fun y hy => (sumsN_perm p3').mem_iff.2 (sums_more y _ ((sumsN_perm p1).mem_iff.1 hy) B))
  obtain ⟨Nb, hNb⟩ := rs_over D (tot l).toNat hD (dscS (sub l b)) (hsn _ fun y hy => (sumsN_perm p3).mem_iff.2 (sums_more y _ ((sumsN_perm p2).mem_iff.1 hy) E))
  obtain ⟨Nu, u0, u1, hNu⟩ := okrun_end D (tot l).toNat hD (dscS (sub l (orI l.length a b))) 9223372036854775808 0 (by omega) (by omega) (by omega) hok (hsn _ fun y hy => hy)
  rw [Rat.zero_divInt, Rat.zero_add] at hNu
  have hE : ∀ x ∈ E, 1 ≤ x := fun x hx => (ra.1 x (p1.mem_iff.2 (by simp [hx]))).1
  have hC : ∀ x ∈ C, 1 ≤ x := fun x hx => (ra.1 x (p1.mem_iff.2 (by simp [hx]))).1
  have hB : ∀ x ∈ B, 1 ≤ x := fun x hx => (rb.1 x (p2.mem_iff.2 (by simp [hx]))).1
  have hA : (0 : Rat) ≤ ((tot l).toNat : Rat) := by exact_mod_cast Nat.zero_le _
  have m1 : mm (sub l b) ≤ mm (sub l (orI l.length a b)) := by rw [mm_perm p2, mm_perm p3]; exact mm_more _ E hE
  have m2 : mm (sub l a) ≤ mm (sub l (orI l.length a b)) := by rw [mm_perm p1, mm_perm p3']; exact mm_more _ B hB
  have m3 : mm (sub l (orI l.length a b)) - mm (sub l a) ≤ mm (sub l b) := by
    have h1 := mm_sub B C E hE
    have h2 := mm_nonneg C hC
    rw [mm_perm p1, mm_perm p2, mm_perm p3]
    grind
  have m4 : 0 ≤ mm (sub l a) := mm_nonneg _ (fun x hx => (ra.1 x hx).1)
  have m5 : 0 ≤ mm (sub l b) := mm_nonneg _ (fun x hx => (rb.1 x hx).1)
  have m6 := mm_le (sub l (orI l.length a b)) (fun x hx => (ru.1 x hx).1)
  have m7 : ((sub l (orI l.length a b)).length : Rat) ≤ 6 := by
    have : (sub l (orI l.length a b)).length ≤ 6 := by omega
    exact_mod_cast this
  have m8 : ((tot l).toNat : Rat) ≤ 54 := by
    have : (tot l).toNat ≤ 54 := by omega
    exact_mod_cast this
  have i1 := Rat.mul_le_mul_of_nonneg_left m1 hA
  have i2 := Rat.mul_le_mul_of_nonneg_left m2 hA
  have i3 := Rat.mul_le_mul_of_nonneg_left m3 hA
  have i4 := Rat.mul_nonneg hA m4
  have i5 := Rat.mul_nonneg hA m5
  have i6 := Rat.mul_le_mul_of_nonneg_left (Rat.le_trans m6 m7) hA
  rw [← rs_mm, ← rs_mm, hNb, hNu] at i1
  rw [← rs_mm, ← rs_mm, hNa, hNu] at i2
  rw [(by intro x y z; grind : ∀ x y z : Rat, x * (y - z) = x * y - x * z), ← rs_mm, ← rs_mm, ← rs_mm, hNa, hNb, hNu] at i3
  rw [← rs_mm, hNa] at i4
  rw [← rs_mm, hNb] at i5
  rw [← rs_mm, hNu] at i6
  have hDi : (0 : Int) < (D : Int) := by omega
  refine ⟨D, Na, Nb, Nu, hDi, by omega, hNa, hNb, hNu, ?_, ?_, divInt_le hDi i2, divInt_le hDi i1, ?_, u1, ?_⟩
  · exact divInt_le hDi (by rw [Rat.zero_divInt]; exact i4)
  · exact divInt_le hDi (by rw [Rat.zero_divInt]; exact i5)
  · refine divInt_le hDi ?_
    rw [show Nu - Na = Nu + -Na by omega, ← divInt_sum]
    have : Rat.divInt (-Na) D = -(Rat.divInt Na D) := by rw [Rat.divInt_eq_div, Rat.divInt_eq_div, Rat.intCast_neg]; grind
    rw [this]
    grind
  · refine divInt_le hDi ?_
    have e : Rat.divInt (400 * (D : Int)) D = 400 := by
      rw [Rat.divInt_eq_div, Rat.intCast_mul]
      have hd0 : ((D : Int) : Rat) ≠ 0 := by
        intro h0
        have : (D : Int) = 0 := by exact_mod_cast h0
        omega
      show (400 : Rat) * _ / _ = _
      grind
    rw [e]
    grind
theorem sub_zero : ∀ l : List Int, sub l 0 = [] := by
  intro l
  induction l with
  | nil => rfl
  | cons x l ih => rw [sub, if_neg (by omega), Int.zero_ediv, ih]
theorem sub_single : ∀ (l : List Int) (i : Nat), i < l.length → sub l (2 ^ i) = [(rd l (i : Int)).toNat] := by
  intro l
  induction l with
  | nil => intro i h; simp at h
  | cons x l ih =>
    intro i hi
    cases i with
    | zero =>
      rw [sub, if_pos (by simp)]
      have : (2 : Int) ^ 0 / 2 = 0 := by decide
      rw [this, sub_zero]
      simp [rd]
    | succ i =>
      have h1 := ih i (by simpa using hi)
      rw [sub, Int.pow_succ, Int.mul_emod_left, if_neg (by omega), Int.mul_ediv_cancel _ (by omega), h1]
      simp [rd]
theorem mean_single (l : List Int) (h : okW l = true) (i : Nat) (hi : i < l.length) : meanR l (2 ^ i) = Rat.divInt (tot l) (rd l (i : Int)) := by
  have ht := tot_bound l h
  have hr := rd_ok l h i (by omega)
  unfold meanR
  rw [sub_single l i hi, rs_mm]
  simp only [mm, ee]
  rw [Rat.divInt_eq_div]
  have e1 : ((tot l : Int) : Rat) = ((tot l).toNat : Rat) := by rw [← Rat.intCast_natCast]; congr 1; omega
  have e2 : ((rd l (i : Int) : Int) : Rat) = ((rd l (i : Int)).toNat : Rat) := by rw [← Rat.intCast_natCast]; congr 1; omega
  rw [e1, e2]
  grind
theorem one_loop (l : List Int) (h : okW l = true) : ∀ (d i : Nat), i + d = l.length → Ev (fun k => comfitlaw04_PacketsOne.l0 k l (tot l) l (l.length : Int) (i : Int)) true := by
  have hk := (okW_iff l).1 h
  have ht := tot_bound l h
  intro d
  induction d with
  | zero =>
    intro i hi
    exact Ev.succ (g := fun k => (comfitlaw04_awake.f k).bind fun t228 => some t228) (Ev.bind awake_ev (Ev.const rfl)) (fun k => by rw [comfitlaw04_PacketsOne.l0, if_neg (by omega)])
  | succ d ih =>
    intro i hi
    have hlt : (2 : Int) ^ i < 2 ^ l.length := pow_lt_pow i l.length (by omega)
    have hr := rd_ok l h i (by omega)
    obtain ⟨k1, h1⟩ := Mean_ev l (2 ^ i) ((okS_iff _ _).2 ⟨h, Int.pow_nonneg (by omega), hlt⟩)
    rw [mean_single l h i (by omega)] at h1
    obtain ⟨k2, h2⟩ := ih (i + 1) (by omega)
    have hright := right_ok (tot l) (rd l (i : Int)) 400 (by omega) (by omega) (by omega) (by omega) (by omega)
    obtain ⟨c, hc, eD, eS⟩ := divInt_parts (tot l) (rd l (i : Int)) (by omega)
    have heq : (Rat.divInt (tot l) (rd l (i : Int))).num * rd l (i : Int) = tot l * ((Rat.divInt (tot l) (rd l (i : Int))).den : Int) := by
      generalize Rat.divInt (tot l) (rd l (i : Int)) = q at *
      rw [eS, eD]
      grind
    dsimp only at h1 h2
    refine ⟨k1 + k2 + 2, fun k hk' => ?_⟩
    obtain ⟨m, rfl⟩ : ∃ m, k = m + 1 + 1 := ⟨k - 2, by omega⟩
    show comfitlaw04_PacketsOne.l0 (m + 1 + 1) l (tot l) l (l.length : Int) (i : Int) = _
    rw [comfitlaw04_PacketsOne.l0, if_pos (by omega), if_pos (by omega), if_pos (by omega), list_ok, take_ok l h]
    simp only [Option.bind_some]
    rw [shl_ok i (by omega), h1 (m + 1) (by omega)]
    simp only [Option.bind_some, if_true]
    rw [hright]
    simp only [Option.bind_some, if_true]
    have e3 : (wrap64 ((fr (Rat.divInt (tot l) (rd l (i : Int)))).1 * rd l (i : Int)) != wrap64 (tot l * (fr (Rat.divInt (tot l) (rd l (i : Int)))).2)) = false := by
      unfold fr
      simp only []
      rw [heq]
      simp
    rw [e3, comfitlaw04_PacketsOne.j4, if_neg (by simp), w_in (n := (i : Int) + 1) (by omega) (by omega)]
    have := h2 m (by omega)
    rw [← this]
    push_cast
    rfl
theorem one_j2 (l : List Int) (h : okW l = true) : Ev (fun k => comfitlaw04_PacketsOne.j2 k l false) true := by
  have hk := (okW_iff l).1 h
  have hl := pow_le l.length hk.2.1
  have ht := tot_bound l h
  refine Ev.succ (g := fun k => (comfitref04_Sum.f k l (wrap64 ((shl .i64 1 (l.length : Int)) - 1))).bind fun t227 => comfitlaw04_PacketsOne.l0 k l t227 l (l.length : Int) 0) ?_ (fun k => by rw [comfitlaw04_PacketsOne.j2, if_neg (by simp)])
  rw [shl_ok _ hk.2.1, w_in (n := 2 ^ l.length - 1) (by omega) (by omega)]
  refine Ev.bind (ref_Sum_ev l _ (by omega) (by omega) hk.2.1) ?_
  have e2 : wrap64 (wsum l (2 ^ l.length - 1)) = tot l := w_in (by unfold tot at ht; omega) (by unfold tot at ht; omega)
  rw [e2]
  exact one_loop l h l.length 0 (by omega)

theorem PacketsOne : comfitlaw04_PacketsOne.Pure := by
  intro l a b _ hl _ _ _
  refine Ev.get ?_
  unfold comfitlaw04_PacketsOne.f
  have hlen : l.length < 4611686018427387904 := by omega
  have hbad : ∀ (s t : Int), okS l s = false ∨ okS l t = false → Ev (fun k => comfitlaw04_PacketsOne.j0 k l s t true) true := by
    intro s t hst
    have hm : ∀ r : Int, ∃ x : Int × Int × Int, Ev (fun k => packets_Mean.f k (l.take 8) r) x ∧ (okS l r = false → x.2.2 = 2) := by
      intro r
      cases hr : okS l r with
      | true =>
        have hw := ((okS_iff l r).1 hr).1
        rw [take_ok l hw]
        exact ⟨_, Mean_ev l r hr, fun h => by cases h⟩
      | false => exact ⟨_, Mean_bad _ r (by rw [okS_take]; exact hr), fun _ => rfl⟩
    obtain ⟨x, ⟨k1, h1⟩, hx⟩ := hm s
    obtain ⟨y, ⟨k2, h2⟩, hy⟩ := hm t
    obtain ⟨k3, h3⟩ := awake_ev
    dsimp only at h1 h2 h3
    refine ⟨k1 + k2 + k3 + 1, fun k hk' => ?_⟩
    obtain ⟨m, rfl⟩ : ∃ m, k = m + 1 := ⟨k - 1, by omega⟩
    show comfitlaw04_PacketsOne.j0 (m + 1) l s t true = _
    rw [comfitlaw04_PacketsOne.j0, if_pos rfl, list_ok]
    simp only [Option.bind_some]
    rw [h1 m (by omega), h2 m (by omega), h3 m (by omega)]
    simp only [Option.bind_some]
    by_cases c1 : x.2.2 = 2
    · rw [if_pos c1]
    · rw [if_neg c1, if_pos (by rcases hst with h | h; exact absurd (hx h) c1; exact hy h)]
  refine Ev.bind (Set_ev l a hlen) ?_
  cases ha : okS l a with
  | false => exact Ev.ifNeg (by simp) (hbad a b (.inl ha))
  | true =>
    refine Ev.ifPos rfl (Ev.bind (Set_ev l b hlen) ?_)
    cases hb : okS l b with
    | false => exact hbad a b (.inr hb)
    | true =>
      obtain ⟨hu, D, Na, Nb, Nu, hD, hD2, eNa, eNb, eNu, na0, nb0, nau, nbu, nsub, nu1, nu400⟩ := one_facts l a b ha hb
      have hw := ((okS_iff l a).1 ha).1
      obtain ⟨k1, h1⟩ := Mean_ev l a ha
      obtain ⟨k2, h2⟩ := Mean_ev l b hb
      obtain ⟨k3, h3⟩ := Mean_ev l _ hu
      rw [eNa] at h1
      rw [eNb] at h2
      rw [eNu] at h3
      have r1 := right_ok Na D 400 hD (by omega) (by omega) na0 (by omega)
      have r2 := right_ok Nb D 400 hD (by omega) (by omega) nb0 (by omega)
      have r3 := right_ok Nu D 400 hD (by omega) (by omega) (by omega) nu400
      obtain ⟨k4, h4⟩ := Less_ev Nu Na D D hD hD (by omega) na0 nu1 (by omega) (by omega) (by omega)
      obtain ⟨k5, h5⟩ := Less_ev Nu Nb D D hD hD (by omega) nb0 nu1 (by omega) (by omega) (by omega)
      obtain ⟨k6, h6⟩ := minus_ev Nu Na D hD (by omega) na0 nau nu1
      obtain ⟨k7, h7⟩ := Less_ev Nb (Nu - Na) D D hD hD nb0 (by omega) (by omega) (by omega) (by omega) (by omega)
      have d4 : decide (Nu * D < Na * D) = false := decide_eq_false (by have := Int.mul_le_mul_of_nonneg_right nau (Int.le_of_lt hD); omega)
      have d5 : decide (Nu * D < Nb * D) = false := decide_eq_false (by have := Int.mul_le_mul_of_nonneg_right nbu (Int.le_of_lt hD); omega)
      have d7 : decide (Nb * D < (Nu - Na) * D) = false := decide_eq_false (by have := Int.mul_le_mul_of_nonneg_right nsub (Int.le_of_lt hD); omega)
      rw [d4] at h4
      rw [d5] at h5
      rw [d7] at h7
      obtain ⟨k8, h8⟩ := one_j2 l hw
      dsimp only at h1 h2 h3 h4 h5 h6 h7 h8
      refine ⟨k1 + k2 + k3 + k4 + k5 + k6 + k7 + k8 + 2, fun k hk' => ?_⟩
      obtain ⟨m, rfl⟩ : ∃ m, k = m + 1 + 1 := ⟨k - 2, by omega⟩
      show comfitlaw04_PacketsOne.j0 (m + 1 + 1) l a b false = _
      rw [comfitlaw04_PacketsOne.j0, if_neg (by simp), list_ok, take_ok l hw]
      simp only [Option.bind_some]
      rw [h1 (m + 1) (by omega), h2 (m + 1) (by omega), h3 (m + 1) (by omega)]
      simp only [Option.bind_some, if_true]
      rw [r1, r2, r3]
      simp only [Option.bind_some, if_true]
      rw [h4 (m + 1) (by omega), h5 (m + 1) (by omega)]
      simp only [Option.bind_some, Bool.false_eq_true, if_false]
      rw [comfitlaw04_PacketsOne.j1, if_neg (by simp), h6 m (by omega)]
      simp only [Option.bind_some, if_true]
      rw [h7 m (by omega)]
      simp only [Option.bind_some]
      rw [h8 m (by omega)]
      split <;> rfl

end Go.Proofs.Ytigmhomfadimnaa.Pure
