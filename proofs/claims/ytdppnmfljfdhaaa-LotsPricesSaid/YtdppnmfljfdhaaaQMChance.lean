/- Plain laws: what Taken and Looks answer, the program's and the reference's. -/
import Derived.Test.YtdppnmfljfdhaaaQMNumbers
import Derived.Test.YtdppnmfljfdhaaaQXL
import Derived.Test.YtdppnmfljfdhaaaQX0
import Derived.Test.YtdppnmfljfdhaaaQXR
import Derived.Test.YtdppnmfljfdhaaaQXcomfitref02numbers
set_option linter.unusedVariables false
set_option linter.unusedSimpArgs false
namespace Go.Proofs.Ytdppnmfljfdhaaa.Pure
open Go.RowKit Go.Proofs.Ytdppnmfljfdhaaa.X Go.Proofs.YtdppnmfljfdhaaaW.PrintWords Go.Proofs.YtdppnmfljfdhaaaW.PrintLast Go.Proofs.YtdppnmfljfdhaaaW.PrintMore

/-! ### Chances -/
def okC (y o : Int) : Prop := 1 ≤ o ∧ o ≤ 12 ∧ 0 ≤ y ∧ y ≤ o
instance (y o : Int) : Decidable (okC y o) := by unfold okC; infer_instance
theorem Is_ok (y o : Int) : comfitref02_Is.f y o = some (decide (okC y o)) := by
  unfold comfitref02_Is.f okC
  repeat' split
  all_goals simp only [Option.some.injEq]
  all_goals first
    | (symm; apply decide_eq_false; omega)
    | (apply decide_eq_decide.2; omega)
theorem pow_pos' (o : Int) (h : 1 ≤ o) : ∀ n : Nat, 1 ≤ o ^ n
  | 0 => by simp
  | n + 1 => by
    rw [Int.pow_succ]
    have h1 := pow_pos' o h n
    have := Int.mul_le_mul_of_nonneg_left (show 1 ≤ o by omega) (show 0 ≤ o ^ n by omega)
    omega
theorem pow_le12 (o : Int) (h0 : 0 ≤ o) (h : o ≤ 12) : ∀ n : Nat, o ^ n ≤ 12 ^ n
  | 0 => by simp
  | n + 1 => by
    rw [Int.pow_succ, Int.pow_succ]
    have h1 := pow_le12 o h0 h n
    have h2 := pow_nonneg' o h0 n
    exact Int.le_trans (Int.mul_le_mul_of_nonneg_right h1 h0) (Int.mul_le_mul_of_nonneg_left h (by have := pow_pos' 12 (by decide) n; omega))
section
variable {l0 l1 : List Int} {y o : Int}
/-! ### The reference -/
theorem sums_taken (h : Ok l0 l1) : sI (fun i => sI (fun b => if aft l0 l1 ((i : Int) + 1) b = 1 then nxm y o (mm l0 l1 y o i) b * o ^ (l0.length - i - 1) else 0) (l0.length + 1)) l0.length = sTaken l0 l1 y o := by
  unfold sTaken
  refine sI_congr _ (fun k hk => ?_)
  rw [← sI_mul]
  have ht := sI_tail (f := fun b => (if aft l0 l1 ((k : Int) + 1) b = 1 then nxm y o (mm l0 l1 y o k) b else 0) * o ^ (l0.length - k - 1)) (i := k + 2) (j := l0.length + 1) (by omega) (fun b hb _ => by
    rw [nxm_out l0 l1 y o k b (by omega)]; simp)
  rw [← ht]
  refine sI_congr _ (fun b _ => ?_)
  split <;> simp
theorem sums_looks (h : Ok l0 l1) : sI (fun i => sI (fun b => mm l0 l1 y o i b * o * o ^ (l0.length - i - 1)) (l0.length + 1)) l0.length = sLooks l0 l1 y o := by
  unfold sLooks
  refine sI_congr _ (fun k hk => ?_)
  unfold gg mass
  rw [← sI_mul]
  have ht := sI_tail (f := fun b => mm l0 l1 y o k b * o ^ (l0.length - k)) (i := k + 1) (j := l0.length + 1) (by omega) (fun b hb _ => by
    rw [mm_out l0 l1 y o k b (by omega)]; simp)
  rw [← ht]
  refine sI_congr _ (fun b _ => ?_)
  obtain ⟨d, hd⟩ : ∃ d, l0.length - k = d + 1 := ⟨l0.length - k - 1, by omega⟩
  rw [hd, show d + 1 - 1 = d by omega, Int.pow_succ]
  grind
theorem numbers_ev (h : Ok l0 l1) (hc : okC y o) : Ev (fun r => comfitref02_numbers.f r l0 l1 y o) (wrap64 (sTaken l0 l1 y o), wrap64 (sLooks l0 l1 y o)) := by
  have hm := h.most
  obtain ⟨h1, h2, h3, h4⟩ := hc
  have hn := num_l0 h h3 h4 h2 l0.length 0 (by omega)
  rw [sums_taken h, sums_looks h] at hn
  have e1 : wrap64 ((l0.length : Int) + 1) = (l0.length : Int) + 1 := w_in (by omega) (by omega)
  have er : (List.replicate (((l0.length : Int) + 1)).toNat (0 : Int)).set (0 : Int).toNat 1 = rowOf (l0.length + 1) (fun b => wrap64 (mm l0 l1 y o 0 b)) := by
    rw [show (((l0.length : Int) + 1)).toNat = l0.length + 1 by omega, rowOf_replicate, show (0 : Int).toNat = 0 from rfl, rowOf_set]
    refine rowOf_congr _ _ _ (fun b _ => ?_)
    unfold mm
    split
    · exact (w_in (by omega) (by omega)).symm
    · exact w_zero.symm
  unfold comfitref02_numbers.f
  rw [e1]
  refine Ev.ifPos (by omega) (Ev.ifPos (by omega) ?_)
  simp only [Option.bind_some]
  refine Ev.ifPos (by simp) ?_
  rw [er]
  simpa [sI, w_zero] using hn
/-! ### The program -/
def Good (n : Nat) (e : S81) : Prop := ∃ k b : Nat, e.f0 = k ∧ e.f1 = b ∧ b ≤ k ∧ k ≤ n
theorem enK_good (l0 l1 : List Int) (k n : Nat) (hk : k < n) : ∀ m : Nat, m ≤ k + 2 → ∀ e ∈ enK l0 l1 k m, Good n e
  | 0, _, e, he => by simp [enK] at he
  | m + 1, hm, e, he => by
    rw [enK_succ] at he
    split at he
    · rcases List.mem_append.1 he with h | h
      · exact enK_good l0 l1 k n hk m (by omega) e h
      · obtain rfl := List.mem_singleton.1 h
        exact ⟨k + 1, m, by simp, rfl, by omega, by omega⟩
    · exact enK_good l0 l1 k n hk m (by omega) e he
theorem ends_good (l0 l1 : List Int) (n : Nat) : ∀ k : Nat, k ≤ n → ∀ e ∈ ends l0 l1 k, Good n e
  | 0, _, e, he => by simp [ends] at he
  | k + 1, hk, e, he => by
    rcases List.mem_append.1 he with h | h
    · exact ends_good l0 l1 n k (by omega) e h
    · exact enK_good l0 l1 k n (by omega) (k + 2) (by omega) e h
end
end Go.Proofs.Ytdppnmfljfdhaaa.Pure
