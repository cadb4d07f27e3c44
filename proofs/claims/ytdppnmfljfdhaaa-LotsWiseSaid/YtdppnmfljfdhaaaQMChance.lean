/- Plain laws: what Taken and Looks answer, the program's and the reference's. -/
import Derived.Test.YtdppnmfljfdhaaaQMTaken
import Derived.Test.YtdppnmfljfdhaaaQX0
import Derived.Test.YtdppnmfljfdhaaaQXR
import Derived.Test.YtdppnmfljfdhaaaQXL
set_option linter.unusedVariables false
set_option linter.unusedSimpArgs false
namespace Go.Proofs.Ytdppnmfljfdhaaa.Pure
open Go.RowKit Go.Proofs.Ytdppnmfljfdhaaa.X Go.Proofs.YtdppnmfljfdhaaaW.PrintWords Go.Proofs.YtdppnmfljfdhaaaW.PrintLast Go.Proofs.YtdppnmfljfdhaaaW.PrintMore

/-! ### Chances -/
def okC (y o : Int) : Prop := 1 ≤ o ∧ o ≤ 12 ∧ 0 ≤ y ∧ y ≤ o
instance (y o : Int) : Decidable (okC y o) := by unfold okC; infer_instance
theorem Is_ok (y o : Int) : comfitref02_Is.f y o = some (decide (okC y o)) := by
  unfold comfitref02_Is.f okC
  repeat' split
  all_goals simp only [Option.some.injEq]
  all_goals first
    | (symm; apply decide_eq_false; omega)
    | (apply decide_eq_decide.2; omega)
theorem pow_pos' (o : Int) (h : 1 ≤ o) : ∀ n : Nat, 1 ≤ o ^ n
  | 0 => by simp
  | n + 1 => by
    rw [Int.pow_succ]
    have h1 := pow_pos' o h n
    have := Int.mul_le_mul_of_nonneg_left (show 1 ≤ o by omega) (show 0 ≤ o ^ n by omega)
    omega
theorem pow12 (n : Nat) (hn : n ≤ 12) : (12 : Int) ^ n ≤ 8916100448256 := by
  have h : (12 : Nat) ^ n ≤ 12 ^ 12 := Nat.pow_le_pow_right (by omega) hn
  have e : ((12 ^ n : Nat) : Int) = (12 : Int) ^ n := by push_cast; rfl
  rw [← e]
  have : (12 : Nat) ^ 12 = 8916100448256 := by decide
  omega
theorem pow_le12 (o : Int) (h0 : 0 ≤ o) (h : o ≤ 12) : ∀ n : Nat, o ^ n ≤ 12 ^ n
  | 0 => by simp
  | n + 1 => by
    rw [Int.pow_succ, Int.pow_succ]
    have h1 := pow_le12 o h0 h n
    have h2 := pow_nonneg' o h0 n
    exact Int.le_trans (Int.mul_le_mul_of_nonneg_right h1 h0) (Int.mul_le_mul_of_nonneg_left h (by have := pow_pos' 12 (by decide) n; omega))
theorem pow_bound (o : Int) (h1 : 1 ≤ o) (h : o ≤ 12) (n : Nat) (hn : n ≤ 12) : 1 ≤ o ^ n ∧ o ^ n ≤ 8916100448256 :=
  ⟨pow_pos' o h1 n, Int.le_trans (pow_le12 o (by omega) h n) (pow12 n hn)⟩

section
variable {l0 l1 : List Int} {y o : Int}
/-! ### The reference -/
/-! ### The program -/
def Good (n : Nat) (e : S81) : Prop := ∃ k b : Nat, e.f0 = k ∧ e.f1 = b ∧ b ≤ k ∧ k ≤ n
end
end Go.Proofs.Ytdppnmfljfdhaaa.Pure
