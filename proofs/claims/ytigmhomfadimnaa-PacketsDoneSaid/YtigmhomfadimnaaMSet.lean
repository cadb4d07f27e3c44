/- Plain laws of packets: valid weights, the parts of a set, and the sums over these. -/
import Derived.Test.YtigmhomfadimnaaMBase
import Derived.Test.YtigmhomfadimnaaHParts
set_option linter.unusedVariables false
set_option linter.unusedSimpArgs false
namespace Go.Proofs.Ytigmhomfadimnaa.Pure
open Go.RowKit Go.Proofs.Ytigmhomfadimnaa.X Go.Proofs.YtigmhomfadimnaaW.PrintWords Go.Proofs.YtigmhomfadimnaaW.PrintLast Go.Proofs.YtigmhomfadimnaaW.PrintMore

/-! ### Valid weights -/
def okW (l : List Int) : Bool := decide (1 ≤ l.length) && decide (l.length ≤ 6) && l.all fun x => decide (1 ≤ x) && decide (x ≤ 9)
theorem okW_iff (l : List Int) : okW l = true ↔ 1 ≤ l.length ∧ l.length ≤ 6 ∧ ∀ x ∈ l, 1 ≤ x ∧ x ≤ 9 := by
  simp [okW, and_assoc]
theorem min_ev (l : List Int) (hl : l.length ≤ 6) : ∀ (d i : Nat), i + d = l.length → ∀ a, Ev (fun k => packets_weights_int_78.l0 k l a (i : Int)) ((l.drop i).foldl mn a) := by
  intro d
  induction d with
  | zero =>
    intro i hi a
    refine Ev.succ (g := fun _ => some a) (Ev.const ?_) (fun k => by rw [packets_weights_int_78.l0, if_neg (by omega)])
    rw [List.drop_of_length_le (by omega)]
    rfl
  | succ d ih =>
    intro i hi a
    refine Ev.succ (g := fun k => packets_weights_int_78.l0 k l (mn a (rd l i)) ((i + 1 : Nat) : Int)) ((ih (i + 1) (by omega) _).cast ?_) (fun k => ?_)
    · rw [rd_drop l i (by omega)]
      rfl
    · rw [packets_weights_int_78.l0, if_pos (by omega), if_pos (by omega), w_in (n := (i : Int) + 1) (by omega) (by omega)]
      push_cast
      rfl
theorem max_ev (l : List Int) (hl : l.length ≤ 6) : ∀ (d i : Nat), i + d = l.length → ∀ a, Ev (fun k => packets_weights_int_79.l0 k l a (i : Int)) ((l.drop i).foldl mx a) := by
  intro d
  induction d with
  | zero =>
    intro i hi a
    refine Ev.succ (g := fun _ => some a) (Ev.const ?_) (fun k => by rw [packets_weights_int_79.l0, if_neg (by omega)])
    rw [List.drop_of_length_le (by omega)]
    rfl
  | succ d ih =>
    intro i hi a
    refine Ev.succ (g := fun k => packets_weights_int_79.l0 k l (mx a (rd l i)) ((i + 1 : Nat) : Int)) ((ih (i + 1) (by omega) _).cast ?_) (fun k => ?_)
    · rw [rd_drop l i (by omega)]
      rfl
    · rw [packets_weights_int_79.l0, if_pos (by omega), if_pos (by omega), w_in (n := (i : Int) + 1) (by omega) (by omega)]
      push_cast
      rfl
theorem foldl_mn (c : Int) : ∀ (l : List Int) (a : Int), c ≤ l.foldl mn a ↔ c ≤ a ∧ ∀ x ∈ l, c ≤ x := by
  intro l
  induction l with
  | nil => simp
  | cons x l ih =>
    intro a
    rw [List.foldl_cons, ih]
    simp only [List.mem_cons, forall_eq_or_imp, mn, ← and_assoc]
    constructor
    · rintro ⟨h, h2⟩
      refine ⟨?_, h2⟩
      split at h <;> omega
    · rintro ⟨h, h2⟩
      refine ⟨?_, h2⟩
      split <;> omega
theorem foldl_mx (c : Int) : ∀ (l : List Int) (a : Int), l.foldl mx a ≤ c ↔ a ≤ c ∧ ∀ x ∈ l, x ≤ c := by
  intro l
  induction l with
  | nil => simp
  | cons x l ih =>
    intro a
    rw [List.foldl_cons, ih]
    simp only [List.mem_cons, forall_eq_or_imp, mx, ← and_assoc]
    constructor
    · rintro ⟨h, h2⟩
      refine ⟨?_, h2⟩
      split at h <;> omega
    · rintro ⟨h, h2⟩
      refine ⟨?_, h2⟩
      split <;> omega
theorem valid_ev (l : List Int) : Ev (fun k => packets_weights_valid.f k l) (okW l) := by
  unfold packets_weights_valid.f packets_weights_int_78.f packets_weights_int_79.f
  by_cases h1 : (l.length : Int) ≥ 1
  · refine Ev.ifPos h1 ?_
    by_cases h2 : (l.length : Int) ≤ 6
    · refine Ev.ifPos h2 ?_
      obtain ⟨x, l', rfl⟩ : ∃ x l', l = x :: l' := by
        cases l with
        | nil => simp at h1
        | cons x l' => exact ⟨x, l', rfl⟩
      have hlen : (x :: l').length ≤ 6 := by omega
      have e0 : rd (x :: l') 0 = x := rfl
      refine Ev.bind (Ev.ifNeg (by omega) (Ev.ifPos (by omega) (min_ev _ hlen l'.length 1 (by simp; omega) _))) ?_
      rw [e0]
      by_cases h3 : 1 ≤ List.foldl mn x (List.drop 1 (x :: l'))
      · refine Ev.ifPos h3 ?_
        refine Ev.bind (Ev.ifNeg (by omega) (Ev.ifPos (by omega) (max_ev _ hlen l'.length 1 (by simp; omega) _))) (Ev.const ?_)
        congr 1
        rw [Bool.eq_iff_iff, okW_iff]
        rw [foldl_mn] at h3
        simp only [decide_eq_true_eq, foldl_mx]
        simp only [List.drop_succ_cons, List.drop_zero, List.mem_cons, forall_eq_or_imp] at h3 ⊢
        constructor
        · exact fun h => ⟨by omega, hlen, ⟨h3.1, h.1⟩, fun y hy => ⟨h3.2 y hy, h.2 y hy⟩⟩
        · exact fun h => ⟨h.2.2.1.2, fun y hy => (h.2.2.2 y hy).2⟩
      · refine Ev.ifNeg h3 (Ev.const ?_)
        congr 1
        rw [eq_comm, Bool.eq_false_iff]
        intro h
        rw [okW_iff] at h
        rw [foldl_mn] at h3
        simp only [List.drop_succ_cons, List.drop_zero, List.mem_cons, forall_eq_or_imp] at h3 h
        exact h3 ⟨h.2.2.1.1, fun y hy => (h.2.2.2 y hy).1⟩
    · refine Ev.ifNeg h2 (Ev.const ?_)
      congr 1
      rw [eq_comm, Bool.eq_false_iff]
      intro h
      rw [okW_iff] at h
      omega
  · refine Ev.ifNeg h1 (Ev.const ?_)
    congr 1
    rw [eq_comm, Bool.eq_false_iff]
    intro h
    rw [okW_iff] at h
    omega
theorem Weights_go (l : List Int) (hl : l.length < 4611686018427387904) : ∀ (d i : Nat), i + d = l.length → Ev (fun k => comfitref04_Weights.l0 k l l (l.length : Int) (i : Int)) (((l.drop i).all fun x => decide (1 ≤ x) && decide (x ≤ 9)) && (decide (1 ≤ l.length) && decide (l.length ≤ 6))) := by
  intro d
  induction d with
  | zero =>
    intro i hi
    rw [List.drop_of_length_le (by omega)]
    by_cases h1 : (l.length : Int) ≥ 1
    · refine Ev.succ (g := fun _ => some (decide ((l.length : Int) ≤ 6))) (Ev.const ?_) (fun k => by rw [comfitref04_Weights.l0, if_neg (by omega), if_pos h1])
      have : 1 ≤ l.length := by omega
      simp [this]
      omega
    · refine Ev.succ (g := fun _ => some false) (Ev.const ?_) (fun k => by rw [comfitref04_Weights.l0, if_neg (by omega), if_neg h1])
      have : ¬ 1 ≤ l.length := by omega
      simp [this]
  | succ d ih =>
    intro i hi
    rw [rd_drop l i (by omega), List.all_cons]
    by_cases h1 : rd l i < 1
    · refine Ev.succ (g := fun _ => some false) (Ev.const ?_) (fun k => by rw [comfitref04_Weights.l0, if_pos (by omega), if_pos (by omega), if_pos (by omega), if_pos h1])
      have : ¬ 1 ≤ rd l i := by omega
      simp [this]
    · by_cases h2 : rd l i > 9
      · refine Ev.succ (g := fun _ => some false) (Ev.const ?_) (fun k => by rw [comfitref04_Weights.l0, if_pos (by omega), if_pos (by omega), if_pos (by omega), if_neg h1, if_pos h2])
        have : ¬ rd l i ≤ 9 := by omega
        simp [this]
      · refine Ev.succ (g := fun k => comfitref04_Weights.l0 k l l (l.length : Int) ((i + 1 : Nat) : Int)) ((ih (i + 1) (by omega)).cast ?_) (fun k => ?_)
        · have : rd l i ≤ 9 := by omega
          have : 1 ≤ rd l i := by omega
          simp [*]
        · rw [comfitref04_Weights.l0, if_pos (by omega), if_pos (by omega), if_pos (by omega), if_neg h1, if_neg h2, w_in (n := (i : Int) + 1) (by omega) (by omega)]
          push_cast
          rfl
theorem Weights_ev (l : List Int) (hl : l.length < 4611686018427387904) : Ev (fun k => comfitref04_Weights.f k l) (okW l) := by
  have := Weights_go l hl l.length 0 (by omega)
  refine Ev.cast (v := ((l.drop 0).all fun x => decide (1 ≤ x) && decide (x ≤ 9)) && (decide (1 ≤ l.length) && decide (l.length ≤ 6))) this ?_
  unfold okW
  rw [List.drop_zero, Bool.and_comm]

/-! ### Sums over lists of sets -/
def lsum (L : List Int) (F : Int → Int) : Int := L.foldr (fun p a => F p + a) 0
theorem lsum_nil (F : Int → Int) : lsum [] F = 0 := rfl
theorem lsum_cons (p : Int) (L : List Int) (F : Int → Int) : lsum (p :: L) F = F p + lsum L F := rfl
theorem lsum_perm {L L' : List Int} (h : L.Perm L') (F : Int → Int) : lsum L F = lsum L' F := by
  induction h with
  | nil => rfl
  | cons x _ ih => rw [lsum_cons, lsum_cons, ih]
  | swap x y _ => simp only [lsum_cons]; omega
  | trans _ _ h1 h2 => exact h1.trans h2
theorem lsum_congr {L : List Int} {F G : Int → Int} (h : ∀ p ∈ L, F p = G p) : lsum L F = lsum L G := by
  induction L with
  | nil => rfl
  | cons p L ih => rw [lsum_cons, lsum_cons, h p (by simp), ih (fun q hq => h q (by simp [hq]))]
theorem lsum_bound {L : List Int} {F : Int → Int} {M : Int} (h : ∀ p ∈ L, -M ≤ F p ∧ F p ≤ M) : -(L.length * M) ≤ lsum L F ∧ lsum L F ≤ L.length * M := by
  induction L with
  | nil => simp [lsum_nil]
  | cons p L ih =>
    have h1 := h p (by simp)
    have h2 := ih (fun q hq => h q (by simp [hq]))
    rw [lsum_cons]
    simp only [List.length_cons]
    push_cast
    rw [Int.add_mul]
    omega

/-! ### The parts of a set -/
theorem parts_dec : ∀ s : Fin 64, (partsL (s.val : Int)).length ≤ 64 ∧ ((partsL (s.val : Int)).all fun p => decide (0 ≤ p) && decide (p ≤ s.val)) = true := by decide +kernel
theorem parts_len (s : Int) (h0 : 0 ≤ s) (h1 : s < 64) : (partsL s).length ≤ 64 := by
  obtain ⟨n, rfl⟩ := Int.eq_ofNat_of_zero_le h0
  exact (parts_dec ⟨n, by omega⟩).1
theorem parts_mem (s : Int) (h0 : 0 ≤ s) (h1 : s < 64) (p : Int) (hp : p ∈ partsL s) : 0 ≤ p ∧ p ≤ s := by
  obtain ⟨n, rfl⟩ := Int.eq_ofNat_of_zero_le h0
  have := (parts_dec ⟨n, by omega⟩).2
  rw [List.all_eq_true] at this
  simpa using this p hp
/-- The parts of a set from t on, as the reference finds them. -/
def lst : Nat → Int → Int → List Int
  | 0, _, _ => []
  | d + 1, t, s => if Go.bits .andNot .i64 t s = 0 then t :: lst d (t + 1) s else lst d (t + 1) s
theorem lst_dec : ∀ n : Fin 7, ∀ s : Fin (2 ^ n.val), (lst (2 ^ n.val) 0 (s.val : Int)).isPerm (partsL (s.val : Int)) = true := by decide +kernel
theorem lst_perm (n : Nat) (hn : n ≤ 6) (s : Int) (h0 : 0 ≤ s) (h1 : s < 2 ^ n) : (lst (2 ^ n) 0 s).Perm (partsL s) := by
  obtain ⟨m, rfl⟩ := Int.eq_ofNat_of_zero_le h0
  exact List.isPerm_iff.mp (lst_dec ⟨n, by omega⟩ ⟨m, by exact_mod_cast h1⟩)
/-- All kinds. -/
theorem shl_dec : ∀ n : Fin 7, shl .i64 1 (n.val : Int) = 2 ^ n.val := by decide +kernel
theorem shl_ok (n : Nat) (hn : n ≤ 6) : shl .i64 1 (n : Int) = 2 ^ n := shl_dec ⟨n, by omega⟩
theorem pow_le (n : Nat) (hn : n ≤ 6) : (2 : Int) ^ n ≤ 64 ∧ 1 ≤ (2 : Int) ^ n := by
  have : n = 0 ∨ n = 1 ∨ n = 2 ∨ n = 3 ∨ n = 4 ∨ n = 5 ∨ n = 6 := by omega
  rcases this with h | h | h | h | h | h | h <;> subst h <;> decide
theorem rest_dec : ∀ n : Fin 7, ∀ p : Fin (2 ^ n.val), Go.bits .andNot .i64 ((2 : Int) ^ n.val - 1) (p.val : Int) = 2 ^ n.val - 1 - p.val := by decide +kernel
theorem rest_ok (n : Nat) (hn : n ≤ 6) (p : Int) (h0 : 0 ≤ p) (h1 : p < 2 ^ n) : Go.bits .andNot .i64 ((2 : Int) ^ n - 1) p = 2 ^ n - 1 - p := by
  obtain ⟨m, rfl⟩ := Int.eq_ofNat_of_zero_le h0
  exact rest_dec ⟨n, by omega⟩ ⟨m, by exact_mod_cast h1⟩
theorem all_ok (l : List Int) (hl : l.length ≤ 6) : packets_weights_all.f l = some (2 ^ l.length - 1) := by
  have := pow_le l.length hl
  rw [packets_weights_all.f, shl_ok _ hl, w_in (by omega) (by omega)]
/-- All weights, together. -/
def tot (l : List Int) : Int := wsum l (2 ^ l.length - 1)
theorem wsum_rest : ∀ (l : List Int) (p : Int), 0 ≤ p → p < 2 ^ l.length → wsum l (2 ^ l.length - 1 - p) = tot l - wsum l p := by
  intro l
  induction l with
  | nil => intro p _ _; simp [tot, wsum]
  | cons x l ih =>
    intro p h0 h1
    have hp : (2 : Int) ^ (x :: l).length = 2 ^ l.length * 2 := by rw [List.length_cons, Int.pow_succ]
    have hpos : 0 < (2 : Int) ^ l.length := Int.pow_pos (by omega)
    unfold tot
    rw [hp] at h1 ⊢
    have i1 := ih (p / 2) (by omega) (by omega)
    simp only [wsum]
    unfold tot at i1
    generalize (2 : Int) ^ l.length = P at *
    have e1 : (P * 2 - 1 - p) / 2 = P - 1 - p / 2 := by omega
    have e2 : (P * 2 - 1) / 2 = P - 1 := by omega
    have e3 : (P * 2 - 1) % 2 = 1 := by omega
    rw [e1, e2, e3, i1]
    have hc : p % 2 = 0 ∧ (P * 2 - 1 - p) % 2 = 1 ∨ p % 2 = 1 ∧ (P * 2 - 1 - p) % 2 = 0 := by omega
    rcases hc with ⟨a, b⟩ | ⟨a, b⟩ <;> rw [a, b] <;> omega
theorem wsum_bound : ∀ (l : List Int), (∀ x ∈ l, 1 ≤ x ∧ x ≤ 9) → ∀ p, 0 ≤ wsum l p ∧ wsum l p ≤ 9 * l.length := by
  intro l
  induction l with
  | nil => intro _ p; simp [wsum]
  | cons x l ih =>
    intro h p
    have h1 := h x (by simp)
    have h2 := ih (fun y hy => h y (by simp [hy])) (p / 2)
    simp only [wsum, List.length_cons]
    push_cast
    have hc : p % 2 = 0 ∨ p % 2 = 1 := by omega
    rcases hc with a | a <;> rw [a] <;> omega
theorem tot_bound (l : List Int) (h : okW l = true) : 1 ≤ tot l ∧ tot l ≤ 54 := by
  rw [okW_iff] at h
  obtain ⟨x, l', rfl⟩ : ∃ x l', l = x :: l' := by
    cases l with
    | nil => simp at h
    | cons x l' => exact ⟨x, l', rfl⟩
  have h1 := wsum_bound _ h.2.2 (2 ^ (x :: l').length - 1)
  have h2 := wsum_bound l' (fun y hy => h.2.2 y (by simp [hy])) (((2 : Int) ^ (x :: l').length - 1) / 2)
  have hx := h.2.2 x (by simp)
  have hp : (2 : Int) ^ (x :: l').length = 2 ^ l'.length * 2 := by rw [List.length_cons, Int.pow_succ]
  have e3 : ((2 : Int) ^ (x :: l').length - 1) % 2 = 1 := by rw [hp]; omega
  unfold tot
  have hlen : ((x :: l').length : Int) ≤ 6 := by have := h.2.1; omega
  refine ⟨?_, by omega⟩
  rw [wsum, e3]
  omega
theorem pow_mono (a : Int) (h0 : 0 ≤ a) (h1 : a ≤ 54) : ∀ n : Nat, 0 ≤ a ^ n ∧ a ^ n ≤ 54 ^ n := by
  intro n
  induction n with
  | zero => simp
  | succ n ih =>
    rw [Int.pow_succ, Int.pow_succ]
    exact ⟨Int.mul_nonneg ih.1 h0, Int.mul_le_mul ih.2 h1 h0 (by omega)⟩
theorem pow54 (n : Nat) (hn : n ≤ 8) : (54 : Int) ^ n ≤ 72301961339136 ∧ (1 : Int) ≤ 54 ^ n := by
  have : n = 0 ∨ n = 1 ∨ n = 2 ∨ n = 3 ∨ n = 4 ∨ n = 5 ∨ n = 6 ∨ n = 7 ∨ n = 8 := by omega
  rcases this with h | h | h | h | h | h | h | h | h <;> subst h <;> decide
theorem pow_bound (a : Int) (h0 : 0 ≤ a) (h1 : a ≤ 54) (n : Nat) (hn : n ≤ 8) : 0 ≤ a ^ n ∧ a ^ n ≤ 72301961339136 := by
  have := pow_mono a h0 h1 n
  have := pow54 n hn
  omega

end Go.Proofs.Ytigmhomfadimnaa.Pure
