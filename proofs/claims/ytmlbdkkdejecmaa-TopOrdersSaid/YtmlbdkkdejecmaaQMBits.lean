/- Plain laws of small sets of states as numbers below 64. -/
import Derived.Test.YtmlbdkkdejecmaaQMTag
import Derived.Test.YtmlbdkkdejecmaaQHReach
import Derived.Test.YtmlbdkkdejecmaaQXZ
import Derived.Test.YtmlbdkkdejecmaaQXRd
set_option linter.unusedVariables false
set_option linter.unusedSimpArgs false
namespace Go.Proofs.Ytmlbdkkdejecmaa.Pure
open Go.RowKit Go.Proofs.Ytmlbdkkdejecmaa.X Go.Proofs.YtmlbdkkdejecmaaW.PrintWords Go.Proofs.YtmlbdkkdejecmaaW.PrintLast Go.Proofs.YtmlbdkkdejecmaaW.PrintMore
theorem bor_all : ∀ a < 64, ∀ b < 64, Go.bits .or .i64 ((a : Nat) : Int) ((b : Nat) : Int) = ((a ||| b : Nat) : Int) := by decide +kernel
theorem shl_all : ∀ i < 6, shl .i64 1 ((i : Nat) : Int) = ((2 ^ i : Nat) : Int) := by decide +kernel
theorem shr_all : ∀ a < 64, ∀ i < 6, (Go.bits .and .i64 (shr .i64 ((a : Nat) : Int) ((i : Nat) : Int)) 1 = 1) = (Nat.testBit a i = true) := by
  have h : ∀ a < 64, ∀ i < 6, decide (Go.bits .and .i64 (shr .i64 ((a : Nat) : Int) ((i : Nat) : Int)) 1 = 1) = Nat.testBit a i := by decide +kernel
  intro a ha i hi
  have := h a ha i hi
  rw [← this]; simp
theorem band_all : ∀ a < 64, ∀ b < 64, (Go.bits .and .i64 ((a : Nat) : Int) ((b : Nat) : Int) != 0) = (List.range 6).any (fun j => Nat.testBit a j && Nat.testBit b j) := by decide +kernel
/-- The number of the states of a set. -/
def pc (x : Nat) : Nat := ((List.range 6).filter (fun j => Nat.testBit x j)).length
theorem pc_more_all : ∀ a < 64, ∀ b < 64, (a ||| b) ≠ a → pc a < pc (a ||| b) := by decide +kernel
theorem pc_le_all : ∀ n ≤ 6, ∀ a < 64, a < 2 ^ n → pc a ≤ n := by decide +kernel
theorem pc_n_all : ∀ n ≤ 6, ∀ a < 64, a < 2 ^ n → ((List.range n).filter (fun j => Nat.testBit a j)).length = pc a := by decide +kernel
theorem size_all : ∀ a < 64, comfittop_size.f 10 ((a : Nat) : Int) = some ((pc a : Nat) : Int) := by decide +kernel
theorem size_ev {a : Nat} (h : a < 64) : Ev (fun k => comfittop_size.f k (a : Int)) ((pc a : Nat) : Int) := Ev.of (fun k => comfittop_size.mono _ _) 10 (size_all a h)
theorem lt64 {n a : Nat} (hn : n ≤ 6) (h : a < 2 ^ n) : a < 64 := Nat.lt_of_lt_of_le h (Nat.pow_le_pow_right (by omega) hn : 2 ^ n ≤ 2 ^ 6)
/-- The set of the states for which B holds, among those from i on. -/
def whN (B : Nat → Bool) : Nat → Nat → Nat → Nat
  | 0, _, o => o
  | d + 1, i, o => whN B d (i + 1) (if B i = true then o ||| 2 ^ i else o)
theorem whN_lt (B : Nat → Bool) {n : Nat} : ∀ (d i o : Nat), i + d ≤ n → o < 2 ^ n → whN B d i o < 2 ^ n := by
  intro d
  induction d with
  | zero => intro i o _ h; exact h
  | succ d ih =>
    intro i o hi h
    refine ih _ _ (by omega) ?_
    split
    · exact Nat.or_lt_two_pow h (Nat.pow_lt_pow_right (by omega) (by omega))
    · exact h
theorem whN_bit (B : Nat → Bool) (j : Nat) : ∀ (d i o : Nat), Nat.testBit (whN B d i o) j = (Nat.testBit o j || (decide (i ≤ j ∧ j < i + d) && B j)) := by
  intro d
  induction d with
  | zero => intro i o; rw [whN, decide_eq_false (by omega)]; simp
  | succ d ih =>
    intro i o
    rw [whN, ih]
    by_cases c : i = j
    · subst c
      rw [decide_eq_false (by omega), decide_eq_true (by omega : i ≤ i ∧ i < i + (d + 1))]
      cases hb : B i <;> simp [Nat.testBit_or]
    · have e : Nat.testBit (if B i = true then o ||| 2 ^ i else o) j = Nat.testBit o j := by
        split
        · rw [Nat.testBit_or, Nat.testBit_two_pow, decide_eq_false c]; simp
        · rfl
      rw [e]
      congr 2
      exact decide_eq_decide.mpr (by omega)
theorem whB_is (B : Nat → Bool) {n : Nat} (hn : n ≤ 6) : ∀ (d i o : Nat), i + d ≤ n → o < 2 ^ n → whB B d i (o : Int) = ((whN B d i o : Nat) : Int) := by
  intro d
  induction d with
  | zero => intro i o _ h; rfl
  | succ d ih =>
    intro i o hi h
    rw [whB, whN]
    have h2 : (2 : Nat) ^ i < 2 ^ n := Nat.pow_lt_pow_right (by omega) (by omega)
    split
    · rw [shl_all i (by omega), bor_all o (lt64 hn h) _ (lt64 hn h2)]
      exact ih _ _ (by omega) (Nat.or_lt_two_pow h h2)
    · exact ih _ _ (by omega) h
/-- Does state i lead into o, in the works w? -/
def ldN (w : List Nat) (o i : Nat) : Bool := (List.range 6).any (fun j => Nat.testBit (w.getD i 0) j && Nat.testBit o j)
def rnd (w : List Nat) (o : Nat) : Nat := o ||| whN (ldN w o) w.length 0 0
def rN (w : List Nat) : Nat → Nat → Nat
  | 0, o => o
  | d + 1, o => rN w d (rnd w o)
def small (w : List Nat) : Prop := w.length ≤ 6 ∧ ∀ i, w.getD i 0 < 2 ^ w.length
theorem rd_nat (w : List Nat) (i : Nat) : rd (w.map (fun x : Nat => (x : Int))) (i : Int) = ((w.getD i 0 : Nat) : Int) := by
  unfold rd
  by_cases h : i < w.length
  · simp [h]
  · simp [h]
theorem leads_is {w : List Nat} (hw : small w) {o : Nat} (ho : o < 2 ^ w.length) (i : Nat) : leads (w.map (fun x : Nat => (x : Int))) (o : Int) i = ldN w o i := by
  unfold leads ldN
  rw [rd_nat, band_all _ (lt64 hw.1 (hw.2 i)) _ (lt64 hw.1 ho)]
theorem rnd_lt {w : List Nat} (hw : small w) {o : Nat} (ho : o < 2 ^ w.length) : rnd w o < 2 ^ w.length :=
  Nat.or_lt_two_pow ho (whN_lt _ _ _ _ (by omega) (Nat.two_pow_pos _))
theorem reach_is {w : List Nat} (hw : small w) : ∀ (d o : Nat), o < 2 ^ w.length → reachN (w.map (fun x : Nat => (x : Int))) d (o : Int) = ((rN w d o : Nat) : Int) := by
  intro d
  induction d with
  | zero => intro o _; rfl
  | succ d ih =>
    intro o ho
    have e : whB (leads (w.map (fun x : Nat => (x : Int))) (o : Int)) (w.map (fun x : Nat => (x : Int))).length 0 0 = ((whN (ldN w o) w.length 0 0 : Nat) : Int) := by
      rw [List.length_map, show leads (w.map (fun x : Nat => (x : Int))) (o : Int) = ldN w o from funext fun i => leads_is hw ho i]
      exact whB_is _ hw.1 w.length 0 0 (by omega) (Nat.two_pow_pos _)
    rw [reachN, rN, e, bor_all _ (lt64 hw.1 ho) _ (lt64 hw.1 (whN_lt _ _ _ _ (by omega) (Nat.two_pow_pos _)))]
    exact ih _ (rnd_lt hw ho)
theorem rN_lt {w : List Nat} (hw : small w) : ∀ (d o : Nat), o < 2 ^ w.length → rN w d o < 2 ^ w.length := by
  intro d
  induction d with
  | zero => intro o h; exact h
  | succ d ih => intro o h; exact ih _ (rnd_lt hw h)
theorem rnd_bit {w : List Nat} (o j : Nat) : Nat.testBit (rnd w o) j = (Nat.testBit o j || (decide (j < w.length) && ldN w o j)) := by
  unfold rnd
  rw [Nat.testBit_or, whN_bit]
  simp
theorem rN_stay {w : List Nat} {o : Nat} (h : rnd w o = o) : ∀ d, rN w d o = o := by
  intro d
  induction d with
  | zero => rfl
  | succ d ih => rw [rN, h]; exact ih
theorem rN_end {w : List Nat} (hw : small w) : ∀ (d o : Nat), o < 2 ^ w.length → rnd w (rN w d o) = rN w d o ∨ pc o + d ≤ pc (rN w d o) := by
  intro d
  induction d with
  | zero => intro o _; exact .inr (Nat.le_refl _)
  | succ d ih =>
    intro o ho
    by_cases c : rnd w o = o
    · rw [rN_stay c]; exact .inl c
    · rcases ih _ (rnd_lt hw ho) with h | h
      · exact .inl h
      · refine .inr ?_
        have := pc_more_all o (lt64 hw.1 ho) _ (lt64 hw.1 (whN_lt (n := w.length) (ldN w o) w.length 0 0 (by omega) (Nat.two_pow_pos _))) c
        rw [rN]
        have e : o ||| whN (ldN w o) w.length 0 0 = rnd w o := rfl
        rw [e] at this
        omega
theorem rN_closed {w : List Nat} (hw : small w) (h0 : 0 < w.length) : rnd w (rN w w.length 1) = rN w w.length 1 := by
  have h1 : 1 < 2 ^ w.length := Nat.one_lt_two_pow (by omega)
  rcases rN_end hw w.length 1 h1 with h | h
  · exact h
  · have := pc_le_all w.length hw.1 _ (lt64 hw.1 (rN_lt hw w.length 1 h1)) (rN_lt hw w.length 1 h1)
    have e : pc 1 = 1 := by decide
    omega
theorem rN_more {w : List Nat} (j : Nat) : ∀ (d o : Nat), Nat.testBit o j = true → Nat.testBit (rN w d o) j = true := by
  intro d
  induction d with
  | zero => intro o h; exact h
  | succ d ih => intro o h; exact ih _ (by rw [rnd_bit, h]; rfl)
theorem rN_in {w : List Nat} {P : Nat → Prop} (hP : ∀ j s, j < w.length → Nat.testBit (w.getD j 0) s = true → P s → P j) : ∀ (d o : Nat), (∀ j, Nat.testBit o j = true → P j) → ∀ j, Nat.testBit (rN w d o) j = true → P j := by
  intro d
  induction d with
  | zero => intro o h; exact h
  | succ d ih =>
    intro o h
    refine ih _ fun j hj => ?_
    rw [rnd_bit] at hj
    rcases Bool.or_eq_true _ _ ▸ hj with e | e
    · exact h j e
    · obtain ⟨e1, e2⟩ := Bool.and_eq_true _ _ ▸ e
      unfold ldN at e2
      obtain ⟨s, _, hs⟩ := List.any_eq_true.mp e2
      obtain ⟨s1, s2⟩ := Bool.and_eq_true _ _ ▸ hs
      exact hP j s (of_decide_eq_true e1) s1 (h s s2)
end Go.Proofs.Ytmlbdkkdejecmaa.Pure
