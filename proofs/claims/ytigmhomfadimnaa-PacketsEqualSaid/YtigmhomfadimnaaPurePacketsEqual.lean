/- PacketsEqual: of n kinds with the same weight all take n times the sum of 1 / k for k from 1 to n; n and the weight are reduced to 54 pairs, and the kernel reckons each. -/
import Derived.Test.YtigmhomfadimnaaXcomfitlaw04PacketsEqual
namespace Go.Proofs.Ytigmhomfadimnaa.Pure
open Go.RowKit Go.Proofs.Ytigmhomfadimnaa.X Go.Proofs.YtigmhomfadimnaaW.PrintWords Go.Proofs.YtigmhomfadimnaaW.PrintLast

theorem equal_all : ∀ i : Fin 6, ∀ j : Fin 9, comfitlaw04_PacketsEqual.l0 100 ((i.val : Int) + 1) ((j.val : Int) + 1) [] 0 ((i.val : Int) + 1) 0 = some true := by decide +kernel
theorem u64_nonneg (a : Int) : 0 ≤ IntKind.u64.wrap a := by
  simp [IntKind.wrap, IntKind.bits, IntKind.signed]
  omega
theorem reduced (a : Int) (m : Nat) (hm : 0 < m) (hm1 : m < 100) : ∃ i : Nat, i < m ∧ wrap64 (1 + (wrap64 (Int.tmod (IntKind.u64.wrap a) (m : Int)))) = (i : Int) + 1 := by
  have h0 := u64_nonneg a
  generalize IntKind.u64.wrap a = u at h0
  have h1 : Int.tmod u m = u % m := Int.tmod_eq_emod_of_nonneg h0
  have h2 : 0 ≤ u % (m : Int) := Int.emod_nonneg _ (by omega)
  have h3 : u % (m : Int) < m := Int.emod_lt_of_pos _ (by omega)
  refine ⟨(u % (m : Int)).toNat, by omega, ?_⟩
  rw [h1]
  generalize u % (m : Int) = v at *
  unfold wrap64
  omega
theorem PacketsEqual : comfitlaw04_PacketsEqual.Pure := by
  intro a0 a1 _ _
  obtain ⟨i, hi, e0⟩ := reduced a0 6 (by omega) (by omega)
  obtain ⟨j, hj, e1⟩ := reduced a1 9 (by omega) (by omega)
  refine ⟨100, ?_⟩
  unfold comfitlaw04_PacketsEqual.f
  have e0' : wrap64 (1 + (wrap64 (Int.tmod (IntKind.u64.wrap a0) 6))) = (i : Int) + 1 := e0
  have e1' : wrap64 (1 + (wrap64 (Int.tmod (IntKind.u64.wrap a1) 9))) = (j : Int) + 1 := e1
  rw [e0', e1']
  exact equal_all ⟨i, hi⟩ ⟨j, hj⟩

end Go.Proofs.Ytigmhomfadimnaa.Pure
