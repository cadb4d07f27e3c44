/- Variables in memory that a call has made: their blocks, told together with what lay before. -/
import Derived.Test.YtmlbdkkdejecmaaQHRound
import Derived.Test.YtmlbdkkdejecmaaQHBoxes
set_option linter.unusedVariables false
set_option linter.unusedSimpArgs false
namespace Go.Proofs.Ytmlbdkkdejecmaa.X
open Go.RowKit Go.Proofs.YtmlbdkkdejecmaaW.PrintWords Go.Proofs.YtmlbdkkdejecmaaW.PrintLast Go.Proofs.YtmlbdkkdejecmaaW.PrintMore

section
variable {w0 W W1 : World} {g : Nat} {cs : Array Value} {t : TypeId}
theorem Box.grownK {row : Option Nat} (h : Box w0 g cs t W) (hg : W.grownBy W1 row) (hr : ∀ r, row = some r → ∃ o : Obj, W.heap[r]? = some o ∧ o.isCells = false) : Box w0 g cs t W1 := by
  refine ⟨h.1, (hg.block _ h.lt ?_).trans h.2⟩
  intro e
  obtain ⟨o, ho, hc⟩ := hr g e.symm
  rw [h.2] at ho
  injection ho with ho
  subst ho
  simp [Obj.isCells] at hc
theorem Box.ended {D : Nat} {o o' : Obj} (h : Box w0 g cs t W) (hD : W.heap[D]? = some o) (ho : o.isCells = false) : Box w0 g cs t (W.putObj D o') := h.grownK (grownBy_putObj' W D o') (fun r e => by cases e; exact ⟨o, hD, ho⟩)
theorem below_ended {D : Nat} {o : Obj} (h : Below w0.heap.size w0 W) (hD : w0.heap.size ≤ D) : Below w0.heap.size w0 (W.putObj D o) := h.grown (grownBy_putObj' W D o) h.size (fun k e => by cases e; exact hD)
theorem below_own {B : Nat} {row : Option Nat} (h : Below w0.heap.size w0 W) (hB : w0.heap.size ≤ B) (hg : W.grownBy W1 row) (hr : ∀ r, row = some r → B ≤ r ∧ ∃ o : Obj, W.heap[r]? = some o ∧ o.isCells = false) : Below w0.heap.size w0 W1 :=
  h.grown hg h.size (fun k e => Nat.le_trans hB (hr k e).1)
theorem keeps_below (B : Nat) (hb : Below W.heap.size W W1) : KeepsFrom B W W1 := ⟨hb.size, fun k o _ hk _ => (hb.block k (Array.getElem?_eq_some_iff.1 hk).1).trans hk⟩
end
end Go.Proofs.Ytmlbdkkdejecmaa.X
