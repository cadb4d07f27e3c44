/- Plain laws of the plans of n and c. -/
import Derived.Test.YtdppnmfljfdhaaaQMPlan
import Derived.Test.YtdppnmfljfdhaaaQHShort
import Derived.Test.YtdppnmfljfdhaaaQXlotsSingle
import Derived.Test.YtdppnmfljfdhaaaQXcomfitref02Single
import Derived.Test.YtdppnmfljfdhaaaQXcomfitref02Short
set_option linter.unusedVariables false
set_option linter.unusedSimpArgs false
namespace Go.Proofs.Ytdppnmfljfdhaaa.Pure
open Go.RowKit Go.Proofs.Ytdppnmfljfdhaaa.X Go.Proofs.YtdppnmfljfdhaaaW.PrintWords Go.Proofs.YtdppnmfljfdhaaaW.PrintLast Go.Proofs.YtdppnmfljfdhaaaW.PrintMore

theorem isS_iff (n c : Int) : isS n c = true ↔ 1 ≤ n ∧ n ≤ 12 ∧ 0 ≤ c ∧ c < n := by simp [isS]
theorem Single_ok (n c : Int) : lots_Single.f n c = some (if isS n c = true then (singleT n c, singleL n c, 0) else ([], [], 2)) := by
  unfold lots_Single.f
  rw [isS_ok]
  simp only [Option.bind_some]
  by_cases h : isS n c = true
  · rw [if_pos h, if_pos h]
    unfold lots_single.f
    rw [if_pos ((isS_iff n c).1 h)]
    rfl
  · rw [if_neg h, if_neg h]
theorem plans_dec : ∀ n : Fin 13, ∀ c : Fin 12, isS (n.val : Int) (c.val : Int) = true →
    comfitref02_Single.f 40 (n.val : Int) (c.val : Int) = some (singleT (n.val : Int) (c.val : Int), singleL (n.val : Int) (c.val : Int)) ∧
    comfitref02_Short.f 40 (n.val : Int) (c.val : Int) = some (shT (n.val : Int) (c.val : Int) (n.val : Int).toNat, shL (n.val : Int) (c.val : Int) (n.val : Int).toNat) ∧
    okP (singleT (n.val : Int) (c.val : Int)) (singleL (n.val : Int) (c.val : Int)) = true ∧ okP (shT (n.val : Int) (c.val : Int) (n.val : Int).toNat) (shL (n.val : Int) (c.val : Int) (n.val : Int).toNat) = true := by decide +kernel
theorem plans {n c : Int} (h : isS n c = true) : comfitref02_Single.f 40 n c = some (singleT n c, singleL n c) ∧ comfitref02_Short.f 40 n c = some (shT n c n.toNat, shL n c n.toNat) ∧ okP (singleT n c) (singleL n c) = true ∧ okP (shT n c n.toNat) (shL n c n.toNat) = true := by
  obtain ⟨h1, h2, h3, h4⟩ := (isS_iff n c).1 h
  obtain ⟨m, rfl⟩ := Int.eq_ofNat_of_zero_le (by omega : 0 ≤ n)
  obtain ⟨d, rfl⟩ := Int.eq_ofNat_of_zero_le h3
  exact plans_dec ⟨m, by omega⟩ ⟨d, by omega⟩ h
end Go.Proofs.Ytdppnmfljfdhaaa.Pure
