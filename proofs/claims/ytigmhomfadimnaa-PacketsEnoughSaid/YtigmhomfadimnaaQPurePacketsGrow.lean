/- PacketsGrow: with more packets a set is there no less often, and there is no less of the kinds; with more kinds wanted it is there no more often. -/
import Derived.Test.YtigmhomfadimnaaQXcomfitlaw04PacketsGrow
import Derived.Test.YtigmhomfadimnaaQMGrow
set_option linter.unusedVariables false
set_option linter.unusedSimpArgs false
namespace Go.Proofs.Ytigmhomfadimnaa.Pure
open Go.RowKit Go.Proofs.Ytigmhomfadimnaa.X Go.Proofs.YtigmhomfadimnaaW.PrintWords Go.Proofs.YtigmhomfadimnaaW.PrintLast Go.Proofs.YtigmhomfadimnaaW.PrintMore

theorem SUP_sub : ∀ (l : List Int) (s : Int) (f g : Int → Int), SUP l s (fun y => f y - g y) = SUP l s f - SUP l s g := by
  intro l
  induction l with
  | nil => intro s f g; rfl
  | cons x l ih =>
    intro s f g
    rw [SUP, SUP, SUP]
    split
    · rw [← ih]
      congr 1
      funext y
      omega
    · exact ih _ _ _
theorem SUP_add : ∀ (l : List Int) (s : Int) (f g : Int → Int), SUP l s (fun y => f y + g y) = SUP l s f + SUP l s g := by
  intro l
  induction l with
  | nil => intro s f g; rfl
  | cons x l ih =>
    intro s f g
    rw [SUP, SUP, SUP]
    split
    · rw [← ih]
      congr 1
      funext y
      omega
    · exact ih _ _ _
theorem SUP_mul : ∀ (l : List Int) (s c : Int) (f : Int → Int), SUP l s (fun y => c * f y) = c * SUP l s f := by
  intro l
  induction l with
  | nil => intro s c f; rfl
  | cons x l ih =>
    intro s c f
    rw [SUP, SUP]
    split
    · rw [← ih]
      congr 1
      funext y
      grind
    · exact ih _ _ _
theorem SUP_le : ∀ (l : List Int) (s : Int) (f : Int → Int), (∀ x ∈ l, 0 ≤ x) → AM f → SUP l s f ≤ f (tot l) := by
  intro l
  induction l with
  | nil => intro s f _ _; exact Int.le_refl _
  | cons x l ih =>
    intro s f h hf
    have hx := h x (by simp)
    have hl := fun y hy => h y (List.mem_cons_of_mem x hy)
    have ht : tot (x :: l) = x + tot l := by rw [wsum_all, wsum_all, List.sum_cons]
    have h0 : 0 ≤ tot l := by
      rw [wsum_all]
      clear ih h hx ht
      induction l with
      | nil => simp
      | cons y l ihl => rw [List.sum_cons]; have := hl y (by simp); have := ihl (fun z hz => hl z (by simp [hz])); omega
    rw [SUP, ht]
    split
    · have h1 := ih (s / 2) _ hl (hf.diff x hx)
      have h2 := hf.nonneg (tot l) h0
      omega
    · exact ih (s / 2) _ hl (hf.shift x hx)
theorem SUP_next : ∀ (l : List Int) (s : Int) (f : Int → Int), (∀ x ∈ l, 0 ≤ x) → AM f → tot l * SUP l s f ≤ SUP l s (fun y => y * f y) := by
  intro l
  induction l with
  | nil =>
    intro s f _ _
    show (0 : Int) * f 0 ≤ 0 * f 0
    omega
  | cons x l ih =>
    intro s f h hf
    have hx := h x (by simp)
    have hl := fun y hy => h y (List.mem_cons_of_mem x hy)
    have ht : tot (x :: l) = x + tot l := by rw [wsum_all, wsum_all, List.sum_cons]
    rw [SUP, SUP, ht]
    split
    · have h1 := ih (s / 2) _ hl (hf.diff x hx)
      have h2 := SUP_nonneg l (s / 2) f hl hf
      have e : (fun y : Int => (x + y) * f (x + y) - y * f y) = fun y => y * (f (x + y) - f y) + x * f (x + y) := by funext y; grind
      rw [e, SUP_add, SUP_mul]
      rw [SUP_sub] at h1 ⊢
      have h3 := Int.mul_nonneg hx h2
      have e2 : (x + tot l) * (SUP l (s / 2) (fun y => f (x + y)) - SUP l (s / 2) f) = tot l * (SUP l (s / 2) (fun y => f (x + y)) - SUP l (s / 2) f) + x * SUP l (s / 2) (fun y => f (x + y)) - x * SUP l (s / 2) f := by grind
      rw [e2]
      omega
    · have h1 := ih (s / 2) _ hl (hf.shift x hx)
      have e : (fun y : Int => (x + y) * f (x + y)) = fun y => y * f (x + y) + x * f (x + y) := by funext y; grind
      rw [e, SUP_add, SUP_mul, Int.add_mul]
      omega
def orI : Nat → Int → Int → Int
  | 0, _, _ => 0
  | n + 1, a, b => (if a % 2 = 1 ∨ b % 2 = 1 then 1 else 0) + 2 * orI n (a / 2) (b / 2)
theorem or_dec : ∀ a : Fin 64, ∀ b : Fin 64, Go.bits .or .i64 (a.val : Int) (b.val : Int) = orI 6 a.val b.val := by decide +kernel
theorem orI_range : ∀ (n : Nat) (a b : Int), 0 ≤ a → 0 ≤ b → a < 2 ^ n → b < 2 ^ n → 0 ≤ orI n a b ∧ orI n a b < 2 ^ n := by
  intro n
  induction n with
  | zero => intro a b _ _ _ _; simp [orI]
  | succ n ih =>
    intro a b h0 h1 h2 h3
    rw [Int.pow_succ] at h2 h3 ⊢
    have := ih (a / 2) (b / 2) (by omega) (by omega) (by omega) (by omega)
    rw [orI]
    split <;> omega
theorem orI_more : ∀ (m n : Nat) (a b : Int), m ≤ n → 0 ≤ a → 0 ≤ b → a < 2 ^ m → b < 2 ^ m → orI n a b = orI m a b := by
  intro m
  induction m with
  | zero =>
    intro n
    induction n with
    | zero => intros; rfl
    | succ n ihn =>
      intro a b _ h0 h1 h2 h3
      have e1 : a = 0 := by simp at h2; omega
      have e2 : b = 0 := by simp at h3; omega
      subst e1 e2
      have := ihn 0 0 (by omega) (by omega) (by omega) (by simp) (by simp)
      have hz : orI (n + 1) 0 0 = (if (0 : Int) % 2 = 1 ∨ (0 : Int) % 2 = 1 then 1 else 0) + 2 * orI n (0 / 2) (0 / 2) := rfl
      rw [hz, if_neg (by omega), Int.zero_ediv, this]
      rfl
  | succ m ih =>
    intro n a b hmn h0 h1 h2 h3
    obtain ⟨n, rfl⟩ : ∃ k, n = k + 1 := ⟨n - 1, by omega⟩
    rw [Int.pow_succ] at h2 h3
    rw [orI, orI, ih n (a / 2) (b / 2) (by omega) (by omega) (by omega) (by omega) (by omega)]
theorem SUP_or : ∀ (l : List Int) (s m : Int) (f : Int → Int), (∀ x ∈ l, 0 ≤ x) → AM f → SUP l (orI l.length s m) f ≤ SUP l s f := by
  intro l
  induction l with
  | nil => intro s m f _ _; exact Int.le_refl _
  | cons x l ih =>
    intro s m f h hf
    have hx := h x (by simp)
    have hl := fun y hy => h y (List.mem_cons_of_mem x hy)
    rw [List.length_cons, orI, SUP, SUP]
    generalize ho : orI l.length (s / 2) (m / 2) = o
    by_cases hs : s % 2 = 1
    · rw [show (if s % 2 = 1 ∨ m % 2 = 1 then (1 : Int) else 0) = 1 from if_pos (Or.inl hs), if_pos (by omega), if_pos hs, show (1 + 2 * o) / 2 = o by omega, ← ho]
      exact ih _ _ _ hl (hf.diff x hx)
    · by_cases hm : m % 2 = 1
      · rw [show (if s % 2 = 1 ∨ m % 2 = 1 then (1 : Int) else 0) = 1 from if_pos (Or.inr hm), if_pos (by omega), if_neg hs, show (1 + 2 * o) / 2 = o by omega, ← ho, SUP_sub]
        have h1 := ih (s / 2) (m / 2) _ hl (hf.shift x hx)
        have h2 := SUP_nonneg l (orI l.length (s / 2) (m / 2)) f hl hf
        omega
      · rw [show (if s % 2 = 1 ∨ m % 2 = 1 then (1 : Int) else 0) = 0 from if_neg (by omega), if_neg (by omega), if_neg hs, show (0 + 2 * o) / 2 = o by omega, ← ho]
        exact ih _ _ _ hl (hf.shift x hx)
theorem shlu_dec : ∀ n : Fin 7, shl .u64 1 (n.val : Int) = ((2 ^ n.val : Nat) : Int) := by decide +kernel
theorem u64_nonneg (a : Int) : 0 ≤ IntKind.u64.wrap a := by
  simp [IntKind.wrap, IntKind.bits, IntKind.signed]
  omega
theorem dn_facts (l : List Int) (h : okW l = true) (s : Int) (n : Nat) (h0 : 0 ≤ s) (h1 : s < 2 ^ l.length) : 0 ≤ dn l s n ∧ dn l s n ≤ tot l ^ n ∧ tot l * dn l s n ≤ dn l s (n + 1) := by
  have hk := (okW_iff l).1 h
  have hx : ∀ x ∈ l, 0 ≤ x := fun x hx => by have := hk.2.2 x hx; omega
  rw [dn_SUP l h s n h0 h1, dn_SUP l h s (n + 1) h0 h1]
  refine ⟨SUP_nonneg l s _ hx (AM.pow n), SUP_le l s _ hx (AM.pow n), ?_⟩
  have := SUP_next l s _ hx (AM.pow n)
  have e : (fun y : Int => y ^ (n + 1)) = fun y => y * y ^ n := by funext y; rw [Int.pow_succ, Int.mul_comm]
  rw [e]
  exact this
theorem ks_next (l : List Int) (h : okW l = true) (n : Nat) : ∀ (d i : Nat), i + d = l.length → tot l * ks l n i d ≤ ks l (n + 1) i d := by
  intro d
  induction d with
  | zero => intro i _; simp [ks]
  | succ d ih =>
    intro i hi
    have h1 := ih (i + 1) (by omega)
    have h2 := (dn_facts l h (2 ^ i) n (Int.pow_nonneg (by omega)) (pow_lt_pow i l.length (by omega))).2.2
    rw [ks, ks, Int.mul_add]
    omega
theorem PacketsGrow : comfitlaw04_PacketsGrow.Pure := by
  intro l s n x3 _ hl _ _ _ _
  refine Ev.get ?_
  unfold comfitlaw04_PacketsGrow.f
  rw [list_ok]
  simp only [Option.bind_some]
  have hlen : l.length < 4611686018427387904 := by omega
  by_cases hg : okS l s = true ∧ okN n = true
  · obtain ⟨hs, hN⟩ := hg
    obtain ⟨hn0, hn⟩ := (okN_iff n).1 hN
    obtain ⟨h, h0, h1⟩ := (okS_iff l s).1 hs
    have hk := (okW_iff l).1 h
    have hp64 := pow_le l.length hk.2.1
    have ht := tot_bound l h
    have hp := pow_bound (tot l) (by omega) (by omega) n.toNat (by omega)
    have hpp : 0 < tot l ^ n.toNat := Int.pow_pos (by omega)
    rw [take_ok l h]
    refine Ev.bind (Done_ev l s n hs hn0 hn) (Ev.ifPos rfl (Ev.bind (Set_ev l s hlen) (Ev.ifPos hs (Ev.ifNeg (by omega) ?_))))
    rw [show decide (n > 8) = false from decide_eq_false (by omega)]
    have hsh : shl .u64 1 (l.length : Int) = ((2 ^ l.length : Nat) : Int) := shlu_dec ⟨l.length, by omega⟩
    have hpos : 0 < 2 ^ l.length := Nat.pow_pos (by omega)
    obtain ⟨m, hm, hme⟩ : ∃ m : Nat, m < 2 ^ l.length ∧ wrap64 (Int.tmod (IntKind.u64.wrap x3) (shl .u64 1 (l.length : Int))) = (m : Int) := by
      have h0 := u64_nonneg x3
      rw [hsh]
      generalize IntKind.u64.wrap x3 = u at h0
      rw [Int.tmod_eq_emod_of_nonneg h0]
      have h2 : 0 ≤ u % ((2 ^ l.length : Nat) : Int) := Int.emod_nonneg _ (by omega)
      have h3 : u % ((2 ^ l.length : Nat) : Int) < ((2 ^ l.length : Nat) : Int) := Int.emod_lt_of_pos _ (by omega)
      have h4 : ((2 ^ l.length : Nat) : Int) ≤ 64 := by push_cast; omega
      refine ⟨(u % ((2 ^ l.length : Nat) : Int)).toNat, by omega, ?_⟩
      rw [w_in (by omega) (by omega)]
      omega
    have hm' : (m : Int) < 2 ^ l.length := by exact_mod_cast hm
    have hor : Go.bits .or .i64 s m = orI l.length s m := by
      rw [← orI_more l.length 6 s m hk.2.1 h0 (by omega) h1 hm']
      obtain ⟨a, rfl⟩ := Int.eq_ofNat_of_zero_le h0
      exact or_dec ⟨a, by omega⟩ ⟨m, by omega⟩
    have hur := orI_range l.length s m h0 (by omega) h1 hm'
    have hsu : okS l (orI l.length s m) = true := (okS_iff _ _).2 ⟨h, hur⟩
    have fs := dn_facts l h s n.toNat h0 h1
    have fu := dn_facts l h (orI l.length s m) n.toNat hur.1 hur.2
    have hle : dn l (orI l.length s m) n.toNat ≤ dn l s n.toNat := by
      rw [dn_SUP l h s n.toNat h0 h1, dn_SUP l h _ n.toNat hur.1 hur.2]
      exact SUP_or l s m _ (fun x hx => by have := hk.2.2 x hx; omega) (AM.pow _)
    obtain ⟨k1, g1⟩ := Done_ev l _ n hsu hn0 hn
    obtain ⟨k2, g2⟩ := Less_ev (dn l s n.toNat) (dn l (orI l.length s m) n.toNat) (tot l ^ n.toNat) (tot l ^ n.toNat) hpp hpp fs.1 fu.1 (by omega) (by omega) (by omega) (by omega)
    have d2 : decide (dn l s n.toNat * tot l ^ n.toNat < dn l (orI l.length s m) n.toNat * tot l ^ n.toNat) = false := decide_eq_false (by have := Int.mul_le_mul_of_nonneg_right hle (Int.le_of_lt hpp); omega)
    rw [d2] at g2
    have r1 := right_ok (dn l s n.toNat) (tot l ^ n.toNat) 1 hpp (by omega) (by omega) fs.1 (by omega)
    have r2 := right_ok (dn l (orI l.length s m) n.toNat) (tot l ^ n.toNat) 1 hpp (by omega) (by omega) fu.1 (by omega)
    obtain ⟨k3, g3⟩ := awake_ev
    -- the second half
    have hj1 : Ev (fun k => comfitlaw04_PacketsGrow.j1 k l s n false (fr (Rat.divInt (dn l s n.toNat) (tot l ^ n.toNat))).1 (fr (Rat.divInt (dn l s n.toNat) (tot l ^ n.toNat))).2) true := by
      by_cases h8 : n = 8
      · exact Ev.succ (g := fun k => (comfitlaw04_awake.f k).bind fun t492 => some t492) (Ev.bind awake_ev (Ev.const rfl)) (fun k => by rw [comfitlaw04_PacketsGrow.j1, if_neg (by simp), if_pos h8])
      · have e1 : wrap64 (n + 1) = n + 1 := w_in (by omega) (by omega)
        have en : (n + 1).toNat = n.toNat + 1 := by omega
        have hp1 := pow_bound (tot l) (by omega) (by omega) (n.toNat + 1) (by omega)
        have hpp1 : 0 < tot l ^ (n.toNat + 1) := Int.pow_pos (by omega)
        have fs1 := dn_facts l h s (n.toNat + 1) h0 h1
        have kk := ks_le l h n.toNat
        have kk1 := ks_le l h (n.toNat + 1)
        have kn := ks_next l h n.toNat l.length 0 (by omega)
        have hlen6 : (l.length : Int) ≤ 6 := by have := hk.2.1; omega
        have kb : ks l n.toNat 0 l.length ≤ 6 * tot l ^ n.toNat := Int.le_trans kk.2.1 (Int.mul_le_mul_of_nonneg_right hlen6 (Int.le_of_lt hpp))
        have kb1 : ks l (n.toNat + 1) 0 l.length ≤ 6 * tot l ^ (n.toNat + 1) := Int.le_trans kk1.2.1 (Int.mul_le_mul_of_nonneg_right hlen6 (Int.le_of_lt hpp1))
        obtain ⟨q1, p1⟩ := Done_ev l s (n + 1) hs (by omega) (by omega)
        obtain ⟨q2, p2⟩ := Kinds_ev l h n hn0 hn
        obtain ⟨q3, p3⟩ := Kinds_ev l h (n + 1) (by omega) (by omega)
        rw [en] at p1 p3
        obtain ⟨q4, p4⟩ := Less_ev (dn l s (n.toNat + 1)) (dn l s n.toNat) (tot l ^ (n.toNat + 1)) (tot l ^ n.toNat) hpp1 hpp fs1.1 fs.1 (by omega) (by omega) (by omega) (by omega)
        obtain ⟨q5, p5⟩ := Less_ev (ks l (n.toNat + 1) 0 l.length) (ks l n.toNat 0 l.length) (tot l ^ (n.toNat + 1)) (tot l ^ n.toNat) hpp1 hpp kk1.1 kk.1 (by omega) (by omega) (by omega) (by omega)
        have c4 : decide (dn l s (n.toNat + 1) * tot l ^ n.toNat < dn l s n.toNat * tot l ^ (n.toNat + 1)) = false := decide_eq_false (by
          have := Int.mul_le_mul_of_nonneg_right fs.2.2 (Int.le_of_lt hpp)
          rw [show dn l s n.toNat * tot l ^ (n.toNat + 1) = tot l * dn l s n.toNat * tot l ^ n.toNat by rw [Int.pow_succ]; grind]
          omega)
        have c5 : decide (ks l (n.toNat + 1) 0 l.length * tot l ^ n.toNat < ks l n.toNat 0 l.length * tot l ^ (n.toNat + 1)) = false := decide_eq_false (by
          have := Int.mul_le_mul_of_nonneg_right kn (Int.le_of_lt hpp)
          rw [show ks l n.toNat 0 l.length * tot l ^ (n.toNat + 1) = tot l * ks l n.toNat 0 l.length * tot l ^ n.toNat by rw [Int.pow_succ]; grind]
          omega)
        rw [c4] at p4
        rw [c5] at p5
        have r3 := right_ok (dn l s (n.toNat + 1)) (tot l ^ (n.toNat + 1)) 1 hpp1 (by omega) (by omega) fs1.1 (by omega)
        have r4 := right_ok (ks l n.toNat 0 l.length) (tot l ^ n.toNat) 6 hpp (by omega) (by omega) kk.1 kb
        have r5 := right_ok (ks l (n.toNat + 1) 0 l.length) (tot l ^ (n.toNat + 1)) 6 hpp1 (by omega) (by omega) kk1.1 kb1
        dsimp only at p1 p2 p3 p4 p5 g3
        refine ⟨q1 + q2 + q3 + q4 + q5 + k3 + 1, fun k hk' => ?_⟩
        obtain ⟨j, rfl⟩ : ∃ j, k = j + 1 := ⟨k - 1, by omega⟩
        show comfitlaw04_PacketsGrow.j1 (j + 1) l s n false _ _ = _
        rw [comfitlaw04_PacketsGrow.j1, if_neg (by simp), if_neg h8, list_ok, take_ok l h]
        simp only [Option.bind_some]
        rw [e1, p1 j (by omega), p2 j (by omega), p3 j (by omega)]
        simp only [Option.bind_some, if_true]
        rw [r3, r4, r5]
        simp only [Option.bind_some, if_true]
        rw [p4 j (by omega), p5 j (by omega), g3 j (by omega)]
        simp
    obtain ⟨k4, g4⟩ := hj1
    dsimp only at g1 g2 g3 g4
    refine ⟨k1 + k2 + k4 + 1, fun k hk' => ?_⟩
    obtain ⟨j, rfl⟩ : ∃ j, k = j + 1 := ⟨k - 1, by omega⟩
    show comfitlaw04_PacketsGrow.j0 (j + 1) l s n x3 0 false _ _ = _
    rw [comfitlaw04_PacketsGrow.j0, if_neg (by simp), if_neg (by rw [hsh]; omega), list_ok, take_ok l h]
    simp only [Option.bind_some]
    rw [hme, hor, g1 j (by omega)]
    simp only [Option.bind_some, if_true]
    rw [r1, r2]
    simp only [Option.bind_some, if_true]
    rw [g2 j (by omega)]
    simp only [Option.bind_some]
    exact g4 j (by omega)
  · have hb : okS (l.take 8) s = false ∨ okN n = false := by
      rw [okS_take]
      cases h : okS l s with
      | false => exact .inl rfl
      | true => exact .inr (by simpa [h] using hg)
    refine Ev.bind (Done_bad _ s n hb) (Ev.ifNeg (by simp) ?_)
    exact Ev.succ (g := fun k => (comfitlaw04_awake.f k).bind fun t481 => some t481) (Ev.bind awake_ev (Ev.const rfl)) (fun k => by rw [comfitlaw04_PacketsGrow.j0, if_pos rfl, if_pos rfl])

end Go.Proofs.Ytigmhomfadimnaa.Pure
