/- Plain laws of packets: differences of powers, over all sets; the chance of a kind to be a set's last. -/
import Derived.Test.YtigmhomfadimnaaQMDone
import Derived.Test.YtigmhomfadimnaaQHExact
import Derived.Test.YtigmhomfadimnaaQX0
import Derived.Test.YtigmhomfadimnaaQXR
import Derived.Test.YtigmhomfadimnaaQXS
import Derived.Test.YtigmhomfadimnaaQXP
import Derived.Test.YtigmhomfadimnaaQHDone
import Derived.Test.YtigmhomfadimnaaQHIsSet
import Derived.Test.YtigmhomfadimnaaQMMean
import Derived.Test.YtigmhomfadimnaaQHLast
set_option linter.unusedVariables false
set_option linter.unusedSimpArgs false
namespace Go.Proofs.Ytigmhomfadimnaa.Pure
open Go.RowKit Go.Proofs.Ytigmhomfadimnaa.X Go.Proofs.YtigmhomfadimnaaW.PrintWords Go.Proofs.YtigmhomfadimnaaW.PrintLast Go.Proofs.YtigmhomfadimnaaW.PrintMore

/-! Plain laws of packets: differences of powers: the ways in which just a set's kinds come, over all sets that have another one. -/
/-- Sums and products of numbers from 0 on and of the place itself. -/
inductive AM : (Int → Int) → Prop
  | const (c : Int) : 0 ≤ c → AM (fun _ => c)
  | var : AM (fun y => y)
  | add {f g : Int → Int} : AM f → AM g → AM (fun y => f y + g y)
  | mul {f g : Int → Int} : AM f → AM g → AM (fun y => f y * g y)
/-! ### The program's sums -/
/-! Plain laws of packets: the chance of a kind to be a set's last, as a rational number; these sum to one. -/
/-- The sum of y times what is left without y, with y more, over the y of post. -/
def ll (c : Rat) : List Nat → List Nat → Rat
  | pre, [] => 0
  | pre, y :: post => (y : Rat) * ee (c + (y : Rat)) (pre ++ post) + ll c (pre ++ [y]) post
theorem ll_cons (c : Rat) (x : Nat) : ∀ (post pre : List Nat), ll c (x :: pre) post = ll c pre post - ll (c + (x : Rat)) pre post := by
  intro post
  induction post with
  | nil => intro pre; simp only [ll]; grind
  | cons y post ih =>
    intro pre
    have h := ih (pre ++ [y])
    simp only [ll, List.cons_append, ee]
    rw [h]
    have e : c + (y : Rat) + (x : Rat) = c + (x : Rat) + (y : Rat) := by grind
    rw [e]
    grind
theorem ll_id : ∀ (m : List Nat) (c : Rat), 0 < c → c * ee c m = (if m = [] then 1 else 0) + ll c [] m := by
  intro m
  induction m with
  | nil =>
    intro c hc
    simp only [ee, ll, if_true]
    have : c ≠ 0 := by intro h; rw [h] at hc; exact absurd hc (by decide)
    grind
  | cons x m ih =>
    intro c hc
    have hx : (0 : Rat) ≤ (x : Rat) := by exact_mod_cast Nat.zero_le x
    have h1 := ih c hc
    have h2 := ih (c + (x : Rat)) (by grind)
    rw [ll, List.nil_append, List.nil_append, ll_cons, ee]
    simp only [List.cons_ne_nil, if_false]
    grind
theorem ll_one : ∀ m : List Nat, (∀ x ∈ m, 1 ≤ x) → ll 0 [] m = if m = [] then 0 else 1 := by
  intro m
  induction m with
  | nil => intro _; rfl
  | cons x m ih =>
    intro h
    have hx : (0 : Rat) < (x : Rat) := by have := h x (by simp); exact_mod_cast (show 0 < x by omega)
    have h1 := ih (fun y hy => h y (by simp [hy]))
    have h2 := ll_id m (x : Rat) hx
    rw [ll, List.nil_append, List.nil_append, ll_cons, h1]
    simp only [List.cons_ne_nil, if_false]
    have e : (0 : Rat) + (x : Rat) = (x : Rat) := Rat.zero_add _
    rw [e]
    by_cases hm : m = []
    · simp only [hm, if_true] at h2 ⊢
      grind
    · simp only [hm, if_false] at h2 ⊢
      grind

/-! ### One denominator -/
def csumL (D x : Nat) : List Nat → Nat
  | [] => 0
  | y :: S => x * (D / (y + x)) + csumL D x S
theorem csumL_perm (D x : Nat) {S S' : List Nat} (h : S.Perm S') : csumL D x S = csumL D x S' := by
  induction h with
  | nil => rfl
  | cons y _ ih => simp only [csumL, ih]
  | swap y z _ => simp only [csumL]; omega
  | trans _ _ h1 h2 => exact h1.trans h2
theorem csumL_le (D x A : Nat) (hx : x ≤ A) : ∀ S : List Nat, csumL D x S ≤ csum D A (S.flatMap fun y => [y + x, y]) := by
  intro S
  induction S with
  | nil => exact Nat.le_refl _
  | cons y S ih =>
    rw [List.flatMap_cons]
    simp only [List.cons_append, List.nil_append, csum, csumL]
    have := Nat.mul_le_mul_right (D / (y + x)) hx
    omega
set_option maxRecDepth 100000 in
theorem oddL_all : (odd15.all fun e => e.all fun x => Nat.blt (csumL (Dw e) x (sumsN (e.erase x))) 9223372036854775808) = true := by decide +kernel
theorem good2 (l : List Nat) (h : ∀ x ∈ l, 1 ≤ x ∧ x ≤ 9) (hl : l.length ≤ 6) :
    ∃ D, 0 < D ∧ D < 1152921504606846976 ∧ (∀ y ∈ sumsN l, y = 0 ∨ y ∣ D) ∧ ∀ x m, l.Perm (x :: m) → csumL D x (sumsN m) < 9223372036854775808 := by
  obtain ⟨ws, hp, hd⟩ := desc_of l
  have hws : ∀ x ∈ ws, 1 ≤ x ∧ x ≤ 9 := fun x hx => h x (hp.mem_iff.1 hx)
  have hlen : ws.length = l.length := hp.length_eq
  have hc := chk_at ws hd hws (by omega)
  have hdiv : ∀ y ∈ sumsN l, y = 0 ∨ y ∣ Dw ws := fun y hy => Dw_dvd ws y ((sumsN_perm hp).mem_iff.2 hy)
  have hpos := Dw_pos ws (fun x hx => (hws x hx).1)
  have hcr : csum (Dw ws) (ws.sum + 9 * (6 - ws.length)) (sumsN ws) < 9223372036854775808 → ∀ x m, l.Perm (x :: m) → csumL (Dw ws) x (sumsN m) < 9223372036854775808 := by
    intro hlt x m hxm
    have hwx : ws.Perm (x :: m) := hp.trans hxm
    have hsum : ws.sum = x + m.sum := by rw [sum_perm hwx, List.sum_cons]
    refine Nat.lt_of_le_of_lt (csumL_le (Dw ws) x (ws.sum + 9 * (6 - ws.length)) (by omega) (sumsN m)) ?_
    rw [csum_perm _ _ (sumsN_perm hwx)] at hlt
    exact hlt
  cases hf : 6 - ws.length with
  | succ f =>
    rw [hf] at hc hcr
    unfold chk at hc
    simp only [Bool.and_eq_true, Nat.blt_eq] at hc
    exact ⟨Dw ws, hpos, hc.1.2, hdiv, hcr hc.1.1⟩
  | zero =>
    rw [hf] at hc hcr
    unfold chk at hc
    simp only [Bool.and_eq_true, Bool.or_eq_true, Nat.blt_eq] at hc
    rcases hc.1 with hc1 | hc1
    · exact ⟨Dw ws, hpos, hc.2, hdiv, hcr (by simpa using hc1)⟩
    · have hmem : ws ∈ odd15 := by simpa using hc1
      refine ⟨Dw ws, hpos, hc.2, hdiv, fun x m hxm => ?_⟩
      have hwx : ws.Perm (x :: m) := hp.trans hxm
      have ho := oddL_all
      rw [List.all_eq_true] at ho
      have ho2 := ho ws hmem
      rw [List.all_eq_true] at ho2
      have hx : x ∈ ws := hwx.mem_iff.2 (by simp)
      have h3 := ho2 x hx
      rw [Nat.blt_eq] at h3
      have hme : (ws.erase x).Perm m := by
        have := hwx.erase x
        simpa using this
      rw [← csumL_perm _ _ (sumsN_perm hme)]
      exact h3

/-! ### The run -/
def rl (x : Nat) : List (Bool × Nat) → Rat
  | [] => 0
  | (b, y) :: t => (if b then (x : Rat) / ((x : Rat) + (y : Rat)) else -((x : Rat) / ((x : Rat) + (y : Rat)))) + rl x t
theorem rl_gg (x : Nat) : ∀ L : List (Bool × Nat), rl x L = (x : Rat) * gg (x : Rat) L := by
  intro L
  induction L with
  | nil => simp only [rl, gg]; grind
  | cons a L ih =>
    obtain ⟨b, y⟩ := a
    rw [rl, gg, ih]
    cases b <;> simp <;> grind
theorem without_dec : ∀ s : Fin 64, ∀ i : Fin 6, ((s.val : Int) / 2 ^ i.val) % 2 = 1 → Go.bits .andNot .i64 (s.val : Int) (2 ^ i.val) = s.val - 2 ^ i.val ∧ (2 : Int) ^ i.val ≤ s.val := by decide +kernel
theorem sub_minus : ∀ (l : List Int) (s : Int) (i : Nat), i < l.length → (s / 2 ^ i) % 2 = 1 → (sub l s).Perm ((rd l (i : Int)).toNat :: sub l (s - 2 ^ i)) := by
  intro l
  induction l with
  | nil => intro s i h; simp at h
  | cons x l ih =>
    intro s i hi hb
    cases i with
    | zero =>
      simp only [Int.pow_zero, Int.ediv_one] at hb
      rw [sub, if_pos hb, sub, if_neg (by rw [Int.pow_zero]; omega), show (s - 2 ^ 0) / 2 = s / 2 by rw [Int.pow_zero]; omega]
      exact List.Perm.refl _
    | succ i =>
      rw [Int.pow_succ, Int.mul_comm, ← Int.ediv_ediv_of_nonneg (by omega)] at hb
      have h := ih (s / 2) i (by simpa using hi) hb
      have e1 : (s - 2 ^ (i + 1)) % 2 = s % 2 := by rw [Int.pow_succ]; omega
      have e2 : (s - 2 ^ (i + 1)) / 2 = s / 2 - 2 ^ i := by rw [Int.pow_succ]; omega
      have e3 : rd (x :: l) ((i + 1 : Nat) : Int) = rd l (i : Int) := by simp [rd]
      rw [sub, sub, e1, e2, e3]
      split
      · exact (List.Perm.cons _ h).trans (List.Perm.swap _ _ _)
      · exact h
/-- The chance of a kind to be a set's last. -/
def lastR (l : List Int) (s : Int) (i : Nat) : Rat := ((rd l (i : Int)).toNat : Rat) * ee ((rd l (i : Int)).toNat : Rat) (sub l (s - 2 ^ i))
end Go.Proofs.Ytigmhomfadimnaa.Pure
