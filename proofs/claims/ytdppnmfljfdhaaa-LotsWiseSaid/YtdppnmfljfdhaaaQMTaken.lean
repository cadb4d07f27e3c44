/- Plain laws of a plan's chances: a table of what goes on, what Taken and Looks sum, and its bounds. -/
import Derived.Test.YtdppnmfljfdhaaaQMPlan
import Derived.Test.YtdppnmfljfdhaaaQHTaken
set_option linter.unusedVariables false
set_option linter.unusedSimpArgs false
namespace Go.Proofs.Ytdppnmfljfdhaaa.Pure
open Go.RowKit Go.Proofs.Ytdppnmfljfdhaaa.X Go.Proofs.YtdppnmfljfdhaaaW.PrintWords Go.Proofs.YtdppnmfljfdhaaaW.PrintLast Go.Proofs.YtdppnmfljfdhaaaW.PrintMore

/-! ### Sums -/
/-- The sum of f below i. -/
def sI (f : Nat → Int) : Nat → Int
  | 0 => 0
  | i + 1 => sI f i + f i
theorem sI_congr {f g : Nat → Int} : ∀ i, (∀ k, k < i → f k = g k) → sI f i = sI g i
  | 0, _ => rfl
  | i + 1, h => by rw [sI, sI, sI_congr i (fun k hk => h k (by omega)), h i (by omega)]
theorem sI_add (f g : Nat → Int) : ∀ i, sI (fun k => f k + g k) i = sI f i + sI g i
  | 0 => rfl
  | i + 1 => by rw [sI, sI, sI, sI_add f g i]; omega
theorem sI_mul (f : Nat → Int) (c : Int) : ∀ i, sI (fun k => f k * c) i = sI f i * c
  | 0 => by simp [sI]
  | i + 1 => by rw [sI, sI, sI_mul f c i, Int.add_mul]
theorem sI_nonneg {f : Nat → Int} : ∀ i, (∀ k, k < i → 0 ≤ f k) → 0 ≤ sI f i
  | 0, _ => by simp [sI]
  | i + 1, h => by rw [sI]; have := sI_nonneg i (fun k hk => h k (by omega)); have := h i (by omega); omega
theorem sI_le {f g : Nat → Int} : ∀ i, (∀ k, k < i → f k ≤ g k) → sI f i ≤ sI g i
  | 0, _ => by simp [sI]
  | i + 1, h => by rw [sI, sI]; have := sI_le i (fun k hk => h k (by omega)); have := h i (by omega); omega
theorem sI_zero {f : Nat → Int} : ∀ i, (∀ k, k < i → f k = 0) → sI f i = 0
  | 0, _ => rfl
  | i + 1, h => by rw [sI, sI_zero i (fun k hk => h k (by omega)), h i (by omega)]; rfl
theorem sI_head (f : Nat → Int) : ∀ i, sI f (i + 1) = f 0 + sI (fun k => f (k + 1)) i
  | 0 => by simp [sI]
  | i + 1 => by rw [sI, sI_head f i]; simp only [sI]; omega
section
variable (l0 l1 : List Int) (y o : Int)
variable {l0 l1 y o}
/-! ### What is summed -/
theorem pow_nonneg' (o : Int) (h : 0 ≤ o) : ∀ n : Nat, 0 ≤ o ^ n
  | 0 => by simp
  | n + 1 => by rw [Int.pow_succ]; exact Int.mul_nonneg (pow_nonneg' o h n) h
end

/-! ### The program's table, by ways -/
section
variable {l0 l1 : List Int} {y o : Int}
end
end Go.Proofs.Ytdppnmfljfdhaaa.Pure
