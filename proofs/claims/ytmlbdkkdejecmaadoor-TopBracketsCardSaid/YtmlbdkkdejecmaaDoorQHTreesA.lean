/- The contract of trees, told by the tables of its rounds. -/
import Derived.Test.YtmlbdkkdejecmaaDoorQHSame
set_option linter.unusedVariables false
set_option linter.unusedSimpArgs false
namespace Go.Proofs.YtmlbdkkdejecmaaDoor.X
open Go.RowKit Go.Proofs.YtmlbdkkdejecmaaDoorW.PrintWords Go.Proofs.YtmlbdkkdejecmaaDoorW.PrintLast Go.Proofs.YtmlbdkkdejecmaaDoorW.PrintMore
attribute [local go_sem] Oper.semAt_some
attribute [local go_sem] max2_int min2_int max_two min_two max_three min_three max_four min_four
open Go.Maps
/-- The ways of the two rules, and what a round makes of a piece. -/
def g1 (s : ByteArray) (F : Nat → Nat → Int) (i j : Nat) : Int := wL s 97 (wP F (wL s 98 (wP F wN))) i j
def v1 (s : ByteArray) (F : Nat → Nat → Int) (i j : Nat) : Int := mn (wrap64 (0 + g1 s F i j)) 100
def v2 (s : ByteArray) (F : Nat → Nat → Int) (i j : Nat) : Int := mn (wrap64 (v1 s F i j + wN i j)) 100
/-- The pieces ahead of (i, j). -/
def dn (n i j a b : Nat) : Prop := a ≤ b ∧ b ≤ n ∧ (a < i ∨ (a = i ∧ b < j))
instance (n i j a b : Nat) : Decidable (dn n i j a b) := by unfold dn; exact inferInstance
def SG (n i j x a b : Nat) : Prop := dn n i j a b ∨ (a = i ∧ b = j ∧ 0 < x)
def FG (n : Nat) (T V : Nat → Nat → Int) (i j x a b : Nat) : Int := if a = i ∧ b = j then (if x = 0 then 0 else if x = 1 then V i j else T i j) else if dn n i j a b then T a b else 0
theorem sg_x (n i j x a b : Nat) : SG n i j (x + 1) a b ↔ SG n i j x a b ∨ (a = i ∧ b = j) := by
  unfold SG
  by_cases h : a = i ∧ b = j
  · constructor
    · intro _; exact .inr h
    · intro _; exact .inr ⟨h.1, h.2, by omega⟩
  · constructor
    · rintro (h1 | h1)
      · exact .inl (.inl h1)
      · exact absurd ⟨h1.1, h1.2.1⟩ h
    · rintro ((h1 | h1) | h1)
      · exact .inl h1
      · exact absurd ⟨h1.1, h1.2.1⟩ h
      · exact absurd h1 h
theorem fg_x0 (n : Nat) (T V : Nat → Nat → Int) (i j a b : Nat) : (if a = i ∧ b = j then V i j else FG n T V i j 0 a b) = FG n T V i j 1 a b := by
  unfold FG
  by_cases h : a = i ∧ b = j
  · rw [if_pos h, if_pos h, if_neg (by omega : ¬ (1 : Nat) = 0), if_pos rfl]
  · rw [if_neg h, if_neg h, if_neg h]
theorem fg_x1 (n : Nat) (T V : Nat → Nat → Int) (i j a b : Nat) : (if a = i ∧ b = j then T i j else FG n T V i j 1 a b) = FG n T V i j 2 a b := by
  unfold FG
  by_cases h : a = i ∧ b = j
  · rw [if_pos h, if_pos h, if_neg (by omega : ¬ (2 : Nat) = 0), if_neg (by omega : ¬ (2 : Nat) = 1)]
  · rw [if_neg h, if_neg h, if_neg h]
theorem sg_j (n i j a b : Nat) (hij : i ≤ j) (hj : j ≤ n) : SG n i j 2 a b ↔ SG n i (j + 1) 0 a b := by
  unfold SG dn
  omega
theorem fg_j (n : Nat) (T V : Nat → Nat → Int) (i j a b : Nat) (hij : i ≤ j) (hj : j ≤ n) : FG n T V i j 2 a b = FG n T V i (j + 1) 0 a b := by
  unfold FG
  by_cases h : a = i ∧ b = j
  · have h2 : ¬ (a = i ∧ b = j + 1) := by omega
    have h3 : dn n i (j + 1) a b := by unfold dn; omega
    rw [if_pos h, if_neg (by omega : ¬ (2 : Nat) = 0), if_neg (by omega : ¬ (2 : Nat) = 1), if_neg h2, if_pos h3, h.1, h.2]
  · rw [if_neg h]
    by_cases h2 : a = i ∧ b = j + 1
    · have h3 : ¬ dn n i j a b := by unfold dn; omega
      rw [if_pos h2, if_neg h3, if_pos rfl]
    · rw [if_neg h2]
      by_cases h3 : dn n i j a b
      · have h4 : dn n i (j + 1) a b := by unfold dn at h3 ⊢; omega
        rw [if_pos h3, if_pos h4]
      · have h4 : ¬ dn n i (j + 1) a b := by unfold dn at h3 ⊢; omega
        rw [if_neg h3, if_neg h4]
theorem sg_i (n i a b : Nat) : SG n i (n + 1) 0 a b ↔ SG n (i + 1) (i + 1) 0 a b := by
  unfold SG dn
  omega
theorem fg_i (n : Nat) (T V : Nat → Nat → Int) (i a b : Nat) (hi : i ≤ n) : FG n T V i (n + 1) 0 a b = FG n T V (i + 1) (i + 1) 0 a b := by
  unfold FG
  by_cases h : a = i ∧ b = n + 1
  · have h2 : ¬ (a = i + 1 ∧ b = i + 1) := by omega
    have h3 : ¬ dn n (i + 1) (i + 1) a b := by unfold dn; omega
    rw [if_pos h, if_pos rfl, if_neg h2, if_neg h3]
  · rw [if_neg h]
    by_cases h2 : a = i + 1 ∧ b = i + 1
    · have h3 : ¬ dn n i (n + 1) a b := by unfold dn; omega
      rw [if_pos h2, if_neg h3, if_pos rfl]
    · rw [if_neg h2]
      by_cases h3 : dn n i (n + 1) a b
      · have h4 : dn n (i + 1) (i + 1) a b := by unfold dn at h3 ⊢; omega
        rw [if_pos h3, if_pos h4]
      · have h4 : ¬ dn n (i + 1) (i + 1) a b := by unfold dn at h3 ⊢; omega
        rw [if_neg h3, if_neg h4]
theorem fg_0 (n : Nat) (T V : Nat → Nat → Int) (a b : Nat) : FG n T V 0 0 0 a b = 0 := by
  unfold FG
  by_cases h : a = 0 ∧ b = 0
  · rw [if_pos h, if_pos rfl]
  · rw [if_neg h, if_neg (by unfold dn; omega)]
theorem wf_mn (x : Int) : (Lit.int .i64 (mn (wrap64 x) 100)).wf = true := by
  refine WalkArith.wf_i64 ?_
  have h : -9223372036854775808 ≤ wrap64 x ∧ wrap64 x < 9223372036854775808 := by unfold wrap64; omega
  unfold mn
  split <;> omega
theorem wf_v1 (s : ByteArray) (F : Nat → Nat → Int) (i j : Nat) : (Lit.int .i64 (v1 s F i j)).wf = true := wf_mn _
theorem wf_v2 (s : ByteArray) (F : Nat → Nat → Int) (i j : Nat) : (Lit.int .i64 (v2 s F i j)).wf = true := wf_mn _
/-- The tables of the rounds. -/
structure Rounds (s : ByteArray) (n m : Nat) (T : Nat → Nat → Nat → Int) : Prop where
  size : s.size = n
  n8 : n ≤ 8
  m9 : m ≤ 100
  zero : ∀ a b, T 0 a b = 0
  step : ∀ r a b, T (r + 1) a b = if a ≤ b ∧ b ≤ n then v2 s (T r) a b else 0
  go : ∀ r, r < m → ∃ a b, a ≤ b ∧ b ≤ n ∧ T r a b ≠ T (r + 1) a b
  stop : ∀ a b, a ≤ b → b ≤ n → T m a b = T (m + 1) a b
end Go.Proofs.YtmlbdkkdejecmaaDoor.X
