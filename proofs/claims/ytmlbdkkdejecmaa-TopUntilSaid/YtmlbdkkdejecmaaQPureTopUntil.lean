/- TopUntil: the law's three numbers are reduced to a few each; every one of these cases is reckoned by the kernel. -/
import Derived.Test.YtmlbdkkdejecmaaQXcomfittopTopUntil
set_option linter.unusedVariables false
set_option linter.unusedSimpArgs false
namespace Go.Proofs.Ytmlbdkkdejecmaa.Pure
open Go.RowKit Go.Proofs.Ytmlbdkkdejecmaa.X Go.Proofs.YtmlbdkkdejecmaaW.PrintWords Go.Proofs.YtmlbdkkdejecmaaW.PrintLast

theorem uw_nonneg (x : Int) : 0 ≤ IntKind.u64.wrap x := by simp only [IntKind.wrap, IntKind.bits, IntKind.signed]; first | omega | (simp; omega)
theorem uw_small (x : Int) (h : 0 ≤ x) (h1 : x < 100) : IntKind.u64.wrap x = x := by simp only [IntKind.wrap, IntKind.bits, IntKind.signed]; first | omega | (simp; omega)
theorem six (a : Int) : ∃ i : Fin 6, Int.tmod (IntKind.u64.wrap a) 6 = Int.tmod (IntKind.u64.wrap (i.val : Int)) 6 := by
  have h0 := uw_nonneg a
  have b1 := Int.tmod_nonneg 6 h0
  have b2 := Int.tmod_lt_of_pos (IntKind.u64.wrap a) (show (0 : Int) < 6 by omega)
  have h1 : ((Int.tmod (IntKind.u64.wrap a) 6).toNat : Int) = Int.tmod (IntKind.u64.wrap a) 6 := Int.toNat_of_nonneg b1
  refine ⟨⟨(Int.tmod (IntKind.u64.wrap a) 6).toNat, by omega⟩, ?_⟩
  show _ = Int.tmod (IntKind.u64.wrap ((Int.tmod (IntKind.u64.wrap a) 6).toNat : Int)) 6
  rw [h1, uw_small _ b1 (by omega), Int.tmod_eq_emod_of_nonneg b1, Int.emod_eq_of_lt b1 b2]
theorem eight (a : Int) : ∃ i : Fin 8, Int.tmod (IntKind.u64.wrap a) 8 = Int.tmod (IntKind.u64.wrap (i.val : Int)) 8 := by
  have h0 := uw_nonneg a
  have b1 := Int.tmod_nonneg 8 h0
  have b2 := Int.tmod_lt_of_pos (IntKind.u64.wrap a) (show (0 : Int) < 8 by omega)
  have h1 : ((Int.tmod (IntKind.u64.wrap a) 8).toNat : Int) = Int.tmod (IntKind.u64.wrap a) 8 := Int.toNat_of_nonneg b1
  refine ⟨⟨(Int.tmod (IntKind.u64.wrap a) 8).toNat, by omega⟩, ?_⟩
  show _ = Int.tmod (IntKind.u64.wrap ((Int.tmod (IntKind.u64.wrap a) 8).toNat : Int)) 8
  rw [h1, uw_small _ b1 (by omega), Int.tmod_eq_emod_of_nonneg b1, Int.emod_eq_of_lt b1 b2]
theorem until_all : ∀ (i j : Fin 6) (n : Fin 8), comfittop_TopUntil.f 40 (i.val : Int) (j.val : Int) (n.val : Int) = some true := by decide +kernel
theorem TopUntil : comfittop_TopUntil.Pure := by
  intro a0 a1 a2 _ _ _
  obtain ⟨i, hi⟩ := six a0
  obtain ⟨j, hj⟩ := six a1
  obtain ⟨n, hn⟩ := eight a2
  refine ⟨40, ?_⟩
  have h := until_all i j n
  unfold comfittop_TopUntil.f at h ⊢
  rw [hi, hj, hn]
  exact h
end Go.Proofs.Ytmlbdkkdejecmaa.Pure
