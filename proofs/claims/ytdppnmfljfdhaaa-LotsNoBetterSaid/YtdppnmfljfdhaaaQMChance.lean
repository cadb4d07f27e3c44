/- Plain laws: what Taken and Looks answer, the program's and the reference's. -/
import Derived.Test.YtdppnmfljfdhaaaQMTaken
import Derived.Test.YtdppnmfljfdhaaaQX0
import Derived.Test.YtdppnmfljfdhaaaQXR
import Derived.Test.YtdppnmfljfdhaaaQXL
set_option linter.unusedVariables false
set_option linter.unusedSimpArgs false
namespace Go.Proofs.Ytdppnmfljfdhaaa.Pure
open Go.RowKit Go.Proofs.Ytdppnmfljfdhaaa.X Go.Proofs.YtdppnmfljfdhaaaW.PrintWords Go.Proofs.YtdppnmfljfdhaaaW.PrintLast Go.Proofs.YtdppnmfljfdhaaaW.PrintMore

/-! ### Chances -/
def okC (y o : Int) : Prop := 1 ≤ o ∧ o ≤ 12 ∧ 0 ≤ y ∧ y ≤ o
instance (y o : Int) : Decidable (okC y o) := by unfold okC; infer_instance
theorem Is_ok (y o : Int) : comfitref02_Is.f y o = some (decide (okC y o)) := by
  unfold comfitref02_Is.f okC
  repeat' split
  all_goals simp only [Option.some.injEq]
  all_goals first
    | (symm; apply decide_eq_false; omega)
    | (apply decide_eq_decide.2; omega)
theorem pow_pos' (o : Int) (h : 1 ≤ o) : ∀ n : Nat, 1 ≤ o ^ n
  | 0 => by simp
  | n + 1 => by
    rw [Int.pow_succ]
    have h1 := pow_pos' o h n
    have := Int.mul_le_mul_of_nonneg_left (show 1 ≤ o by omega) (show 0 ≤ o ^ n by omega)
    omega
theorem pow_le12 (o : Int) (h0 : 0 ≤ o) (h : o ≤ 12) : ∀ n : Nat, o ^ n ≤ 12 ^ n
  | 0 => by simp
  | n + 1 => by
    rw [Int.pow_succ, Int.pow_succ]
    have h1 := pow_le12 o h0 h n
    have h2 := pow_nonneg' o h0 n
    exact Int.le_trans (Int.mul_le_mul_of_nonneg_right h1 h0) (Int.mul_le_mul_of_nonneg_left h (by have := pow_pos' 12 (by decide) n; omega))
section
variable {l0 l1 : List Int} {y o : Int}
/-! ### The reference -/
/-! ### The program -/
def Good (n : Nat) (e : S81) : Prop := ∃ k b : Nat, e.f0 = k ∧ e.f1 = b ∧ b ≤ k ∧ k ≤ n
theorem enK_good (l0 l1 : List Int) (k n : Nat) (hk : k < n) : ∀ m : Nat, m ≤ k + 2 → ∀ e ∈ enK l0 l1 k m, Good n e
  | 0, _, e, he => by simp [enK] at he
  | m + 1, hm, e, he => by
    rw [enK_succ] at he
    split at he
    · rcases List.mem_append.1 he with h | h
      · exact enK_good l0 l1 k n hk m (by omega) e h
      · obtain rfl := List.mem_singleton.1 h
        exact ⟨k + 1, m, by simp, rfl, by omega, by omega⟩
    · exact enK_good l0 l1 k n hk m (by omega) e he
theorem ends_good (l0 l1 : List Int) (n : Nat) : ∀ k : Nat, k ≤ n → ∀ e ∈ ends l0 l1 k, Good n e
  | 0, _, e, he => by simp [ends] at he
  | k + 1, hk, e, he => by
    rcases List.mem_append.1 he with h | h
    · exact ends_good l0 l1 n k (by omega) e h
    · exact enK_good l0 l1 k n (by omega) (k + 2) (by omega) e h
end
end Go.Proofs.Ytdppnmfljfdhaaa.Pure
